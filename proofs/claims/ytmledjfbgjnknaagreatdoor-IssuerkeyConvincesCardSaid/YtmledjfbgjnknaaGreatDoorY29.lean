/-
  Part of the proof, part Y29. Own work.
-/
import Derived.Test.YtmledjfbgjnknaaGreatDoorY28
set_option linter.all false
namespace Go.Proofs.YtmledjfbgjnknaaGreatDoor
open Go Go.Dom Go.Num
set_option maxRecDepth 100000
set_option maxHeartbeats 8000000
theorem getD_S {l:List Bytes} {x:Nat} (h:x<l.length):(l.map PV.s).getD x .fn0= .s (l.getD x []):=by
 simp[List.getD_eq_getElem?_getD,h]
theorem cells_S {l:List Bytes} {y:PV} (h:y∈l.map PV.s):y.cells.length=1:=by
 obtain⟨c,_,rfl⟩:=List.mem_map.1 h;rfl
def idxF {α:Type} (p:α→Bool):Nat→List α→Int
 | _,[]=> -1
 |k,x::r=>if p x then(k:Int)else idxF p (k+1) r
theorem idxF_neg {α:Type} {p:α→Bool}: ∀{l:List α} {k:Nat},0≤idxF p k l↔l.any p=true
 |[],k=>by simp[idxF]
 |x::r,k=>by
  simp only[idxF,List.any_cons];split
  ·rename_i h;simp[h]
  ·rename_i h;simp only[Bool.not_eq_true]at h;rw[idxF_neg,h,Bool.false_or]
theorem drop_cons {l:List Bytes} {i:Nat} (h:i<l.length):l.drop i=l.getD i []::l.drop (i+1):=by
 rw[List.drop_eq_getElem_cons h,List.getD_eq_getElem?_getD,List.getElem?_eq_getElem h];rfl
theorem IndexFuncN_ok (l:List Bytes) (f:FuncId) (p:Bytes→Bool) (hl:l.length<4611686018427387904) (h: ∀x,EvP Tryz.prog f [.s x] (.b (p x))):EvP Tryz.prog 360 [.sl (l.map .s), .fn (.func f)] (E (idxF p 0 l)):=by
 refine eW Tryz.call360 Tryz.func360 ?_;repeat' first|simp only[go_sem,seval]|refine sB ?_|(first|apply pX|apply bX)<;>intro hc|refine⟨oD,?_⟩|exact oD|fail
 refine loop_run (α:=Nat) (fun i=>l.length-i) (fun i=>⟨[(0, .v (.sl (l.map .s))),(1, .v (.fn (.func f))),(7, .v (.i .i64 l.length)),(8, .v (.i .i64 (i:Nat)))],[],_⟩) (fun i=>i≤l.length∧idxF p i (l.drop i)=idxF p 0 l) 0 (fun _=>Nat.le_refl _) ⟨Nat.zero_le _,rfl⟩ ?_ ?_
 ·exact lE
 ·rintro i ⟨hi,hx⟩ R hR;rw[←hx]
  by_cases hlt:i<l.length
  ·have e1:=getD_S hlt;have hf:=h (l.getD i []);have hgo:=hR (i+1);rw[←hx,drop_cons hlt]at hgo;rw[drop_cons hlt];simp only[idxF]at hgo⊢;clear hx hR h;generalize p (l.getD i [])=b at*;repeat' first|simp only[go_sem,seval,e1]|refine cP hf ?_|refine sB ?_|(first|apply pX|apply bX)<;>intro hc|refine⟨oD,?_⟩|exact oD|fail
   all_goals first
    |(refine hgo ⟨by omega,by simp_all⟩ (by omega) _ ?_;(refine AS.Le.of (by first|decide|omega) ?_ ?_<;>simp[LeT,LeH,tget,hget,AV.bd,AV.bd.bdL,u8,bd_cellsOf,bcells_bd,icells_bd]);done)
    |(simp_all;done)
    |skip
  ·obtain rfl:i=l.length:=by omega
   rw[List.drop_length];repeat' first|simp only[go_sem,seval]|refine sB ?_|(first|apply pX|apply bX)<;>intro hc|refine⟨oD,?_⟩|exact oD|fail
   all_goals simp[idxF]
theorem ContainsFuncN_ok (l:List Bytes) (f:FuncId) (p:Bytes→Bool) (hl:l.length<4611686018427387904) (h: ∀x,EvP Tryz.prog f [.s x] (.b (p x))):EvP Tryz.prog 254 [.sl (l.map .s), .fn (.func f)] (.b (l.any p)):=by
 have hi:=IndexFuncN_ok l f p hl h;have e:decide (idxF p 0 l≥0)=l.any p:=by
  rw[Bool.eq_iff_iff,decide_eq_true_iff];exact idxF_neg
 refine eW Tryz.call254 Tryz.func254 ?_;repeat' first|simp only[go_sem,seval,e]|refine cP hi ?_|refine sB ?_|(first|apply pX|apply bX)<;>intro hc|refine⟨oD,?_⟩|exact oD|fail
abbrev T (vs:List Bytes) (sd:Bytes) (at':Int):PV:= .agg [.sl (vs.map .s), .s sd, .i .i64 at']
theorem good1_ok (x:Bytes):EvP Tryz.prog 332 [.s x] (.b (!validN x)):=by
 have hv:=natValid x;refine eW Tryz.call332 Tryz.func332 ?_;repeat' first|simp only[go_sem,seval]|refine cP hv ?_|refine sB ?_|(first|apply pX|apply bX)<;>intro hc|refine⟨oD,?_⟩|exact oD|fail
def goodT (vs:List Bytes) (at':Int):Bool:=decide (at'≥0)&&decide (at'≤2147483647)&& !(vs.any fun x=> !validN x)
theorem coinsgood_ok (vs:List Bytes) (sd:Bytes) (at':Int) (hl:vs.length<4611686018427387904):EvP Tryz.prog 209 [T vs sd at'] (.b (goodT vs at')):=by
 have hcf:=ContainsFuncN_ok vs _ (fun x=> !validN x) hl good1_ok
 unfold goodT;generalize (vs.any fun x=> !validN x)=b at*
 refine eW Tryz.call209 Tryz.func209 ?_;repeat' first|simp only[go_sem,seval]|refine cP hcf ?_|refine sB ?_|(first|apply pX|apply bX)<;>intro hc|refine⟨oD,?_⟩|exact oD|fail
 all_goals simp_all
 all_goals (intros;omega)
def readyE (vs:List Bytes) (at':Int) (n:Bytes):Int:=if !(goodT vs at'&&validN n)then 3 else if n=[]then 11 else 0
theorem ready_ok (vs:List Bytes) (sd:Bytes) (at':Int) (n:Bytes) (hl:vs.length<4611686018427387904):EvP Tryz.prog 97 [T vs sd at', .s n] (E (readyE vs at' n)):=by
 have hg:=coinsgood_ok vs sd at' hl;have hv:=natValid n;unfold readyE;generalize goodT vs at'=b at*;generalize validN n=b2 at*;refine eW Tryz.call97 Tryz.func97 ?_;repeat' first|simp only[go_sem,seval]|refine cP hg ?_|refine cP hv ?_|refine sB ?_|(first|apply pX|apply bX)<;>intro hc|refine⟨oD,?_⟩|exact oD|fail
 all_goals simp_all
def drawR (vs:List Bytes) (sd:Bytes) (i:Nat) (n:Bytes):PV:=
 if num n≤num (vs.getD i [])then .tup [.s [],T [] [] 0,E 2]else .tup [.s (vs.getD i []),T vs sd (i+1:Nat),E 0]
theorem flat_S (l:List Bytes):(l.map PV.s).flatMap PV.cells=l.map PV.s:=by
 induction l with
 |nil=>rfl
 |cons x r ih=>simp_all[PV.cells]
theorem one_SA {l:List Bytes} {y:AV} (h:y∈List.map AV.v (List.flatMap PV.cells (l.map PV.s))):y.one=true:=by
 rw[flat_S,List.map_map]at h;obtain⟨c,_,rfl⟩:=List.mem_map.1 h;rfl
theorem flat_rep (n:Nat) (x:AV):(List.replicate n [x]).flatten.length=n:=by
 induction n with
 |zero=>rfl
 |succ n ih=>rw[List.replicate_succ,List.flatten_cons,List.length_append,ih,List.length_singleton];omega
theorem rowS (vs:List Bytes):List.drop vs.length (List.replicate vs.length [AV.v (PV.s [])]).flatten=[]∧(List.map AV.v (List.map PV.s vs)).all AV.one=true∧List.take vs.length (List.map AV.v (List.map PV.s vs))=List.map AV.v (List.map PV.s vs)∧chunk 1 vs.length (List.map PV.s vs)=List.map PV.s vs:=by
 refine⟨?_,?_,?_,?_⟩
 ·rw[List.drop_of_length_le (by rw[flat_rep];exact Nat.le_refl _)]
 ·simp[List.all_eq_true,AV.one,PV.one]
 ·rw[List.take_of_length_le (by simp)]
 ·have:=chunk1 (List.map PV.s vs);rwa[List.length_map]at this
theorem getD_mem {vs:List Bytes} {i:Nat} (hi:i<vs.length):vs.getD i []∈vs:=by
 rw[List.getD_eq_getElem?_getD,List.getElem?_eq_getElem hi];exact List.getElem_mem hi
theorem draw_ok {vs:List Bytes} (sd:Bytes) {i:Nat} {n:Bytes} (hv:vs.all validN=true) (hn:validN n=true) (hi:i<vs.length) (hl:vs.length<1000000):EvP Tryz.prog 98 [T vs sd i, .s n] (drawR vs sd i n):=by
 have hx:validN (vs.getD i [])=true:=List.all_eq_true.1 hv _ (getD_mem hi);have hcm:=Cmp_ok (vs.getD i []) n;rw[hx,hn]at hcm;simp only[Bool.and_self,if_true]at hcm;have e1:=getD_S hi;have e2:(cmpN (num (vs.getD i [])) (num n)≥0)=(num n≤num (vs.getD i [])):=cmpGe _ _;unfold drawR;generalize cmpN (num (vs.getD i [])) (num n)=cm at*
 by_cases hle:num n≤num (vs.getD i [])
 ·rw[if_pos hle];have e3:cm≥0:=by rw[e2];exact hle
  refine eW Tryz.call98 Tryz.func98 ?_;repeat' first|simp only[go_sem,seval,e1]|refine cP hcm ?_|refine sB ?_|(first|apply pX|apply bX)<;>intro hc|refine⟨oD,?_⟩|exact oD|fail
  rfl
 ·rw[if_neg hle];have e3: ¬cm≥0:=by rw[e2];exact hle
  refine eW Tryz.call98 Tryz.func98 ?_;repeat' first|simp only[go_sem,seval,e1]|refine cP hcm ?_|refine sB ?_|(first|apply pX|apply bX)<;>intro hc|refine⟨oD,?_⟩|exact oD|fail
  refine⟨⟨fun x hx=>cells_S hx,fun y hy=>one_SA hy,by rw[flat_rep];exact Nat.le_refl _⟩,?_⟩
  obtain⟨r1,r2,r3,r4⟩:=rowS vs;repeat' first|simp only[go_sem,seval,e1,flat_rep,flat_S,r1,r2,r3,r4,mapO_view_v]|refine sB ?_|(first|apply pX|apply bX)<;>intro hc|refine⟨oD,?_⟩|exact oD|fail
  simp
theorem ready0 {vs:List Bytes} {i:Nat} {n:Bytes} (hv:vs.all validN=true) (hn:validN n=true) (h0:n≠[]) (hi:i<1000000):readyE vs i n=0:=by
 have h1:(vs.any fun x=> !validN x)=false:=by
  rw[Bool.eq_false_iff];intro g;obtain⟨x,hx,h⟩:=List.any_eq_true.1 g;simp[List.all_eq_true.1 hv x hx]at h
 have h2:goodT vs i=true:=by
  unfold goodT;rw[h1,decide_eq_true (show(i:Int)≥0 by omega),decide_eq_true (show(i:Int)≤2147483647 by omega)];rfl
 simp[readyE,h2,hn,h0]
theorem Below_ok {vs:List Bytes} (sd:Bytes) {i:Nat} {n:Bytes} (hv:vs.all validN=true) (hn:validN n=true) (h0:n≠[]) (hi:i<vs.length) (hl:vs.length<1000000):EvP Tryz.prog 42 [T vs sd i, .s n] (drawR vs sd i n):=by
 have h1:=ready_ok vs sd i n (by omega)
 rw[ready0 hv hn h0 (by omega)]at h1
 have h2:=draw_ok sd hv hn hi hl;unfold drawR at*
 by_cases hle:num n≤num (vs.getD i [])
 ·rw[if_pos hle]at h2⊢;refine eW Tryz.call42 Tryz.func42 ?_;repeat' first|simp only[go_sem,seval]|refine cP h1 ?_|refine cP h2 ?_|refine sB ?_|(first|apply pX|apply bX)<;>intro hc|refine⟨oD,?_⟩|exact oD|fail
  all_goals rfl
 ·rw[if_neg hle]at h2⊢;refine eW Tryz.call42 Tryz.func42 ?_;repeat' first|simp only[go_sem,seval]|refine cP h1 ?_|refine cP h2 ?_|refine sB ?_|(first|apply pX|apply bX)<;>intro hc|refine⟨oD,?_⟩|exact oD|fail
  all_goals simp
theorem Many0_ok {vs:List Bytes} (sd:Bytes) {i:Nat} (hv:vs.all validN=true) (hi:i<1000000) (hl:vs.length<1000000):EvP Tryz.prog 113 [T vs sd i, .s [1],E 0] (.tup [.sl [],T vs sd i,E 0]):=by
 have h1:=ready_ok vs sd i [1] (by omega)
 rw[ready0 hv rfl (by simp) hi]at h1
 refine eW Tryz.call113 Tryz.func113 ?_;repeat' first|simp only[go_sem,seval]|refine cP h1 ?_|(refine loop_unroll' ?_)|refine sB ?_|(first|apply pX|apply bX)<;>intro hc|refine⟨oD,?_⟩|exact oD|fail
theorem wellFormed_ok {vs:List Bytes} (sd:Bytes) {i:Nat} (hv:vs.all validN=true) (hi:i<1000000) (hl:vs.length<1000000):EvP Tryz.prog 89 [T vs sd i] (.b true):=by
 have h1:=Many0_ok sd hv hi hl;rw[one_eq]at h1;refine eW Tryz.call89 Tryz.func89 ?_;repeat' first|simp only[go_sem,seval]|refine cP rone_ok ?_|refine cP h1 ?_|refine sB ?_|(first|apply pX|apply bX)<;>intro hc|refine⟨oD,?_⟩|exact oD|fail
theorem half_ok {p:Bytes} (vp:validN p=true) (lp:p.length≤8) (h1:1≤num p):EvP Tryz.prog 96 [.s p] (N ((num p-1)/2)):=by
 have hs:=SubN (num8 lp) (show 1<18446744073709551616 by decide)
 rw[if_pos h1,if_pos h1,N_of vp]at hs;have hd:=DivModN (a:=num p-1) (b:=2) (by have:=num8 lp;omega) (by decide) (by decide)
 refine eW Tryz.call96 Tryz.func96 ?_;repeat' first|simp only[go_sem,seval,two_eq]|refine cP rone_ok ?_|refine cP Of2 ?_|refine cP hs ?_|refine cP hd ?_|refine sB ?_|(first|apply pX|apply bX)<;>intro hc|refine⟨oD,?_⟩|exact oD|fail
theorem Order_ok {p q:Bytes} (vp:validN p=true) (vq:validN q=true) (lp:p.length≤4) (lq:q.length≤4) (h1:1≤num p) (h2:1≤num q) (hs:safeE p q=0):EvP Tryz.prog 40 [G p q] (.tup [N ((num p-1)/2*((num q-1)/2)),E 0]):=by
 have v1:=natValid p;have v2:=natValid q;rw[vp]at v1;rw[vq]at v2;have hsf:=safe_ok p q;rw[hs]at hsf;have a1:=half_ok vp (by omega) h1
 have a2:=half_ok vq (by omega) h2
 have b1:num p<4294967296:=Nat.lt_of_lt_of_le (num_lt p) (Nat.pow_le_pow_right (by decide) lp)
 have b2:num q<4294967296:=Nat.lt_of_lt_of_le (num_lt q) (Nat.pow_le_pow_right (by decide) lq)
 have hm:=Mul_ok (bts ((num p-1)/2)) (bts ((num q-1)/2));have hx:(num p-1)/2*((num q-1)/2)<18446744073709551616:=Nat.lt_of_lt_of_le (Nat.mul_lt_mul'' (show _<4294967296 by omega) (show _<4294967296 by omega)) (by decide)
 have hl:(num p-1)/2*((num q-1)/2)<LIM:=Nat.lt_of_lt_of_le hx (by unfold LIM;decide+kernel)
 simp only[mulB,vN (show(num p-1)/2<18446744073709551616 by omega),vN (show(num q-1)/2<18446744073709551616 by omega),Bool.and_self,if_true,num_bts,hl]at hm
 refine eW Tryz.call40 Tryz.func40 ?_;repeat' first|simp only[go_sem,seval]|refine cP v1 ?_|refine cP v2 ?_|refine cP hsf ?_|refine cP a1 ?_|refine cP a2 ?_|refine cP hm ?_|refine sB ?_|(first|apply pX|apply bX)<;>intro hc|refine⟨oD,?_⟩|exact oD|fail
theorem EqualN_ok (a b:List Bytes) (ha:a.length<4611686018427387904) (hb:b.length<4611686018427387904):EvP Tryz.prog 17 [.sl (a.map .s), .sl (b.map .s)] (.b (decide (a=b))):=by
 by_cases hlen:a.length=b.length
 ·refine eW Tryz.call17 Tryz.func17 ?_;repeat' first|simp only[go_sem,seval]|refine sB ?_|(first|apply pX|apply bX)<;>intro hc|refine⟨oD,?_⟩|exact oD|fail
  refine loop_run (α:=Nat) (fun i=>a.length-i) (fun i=>⟨[(0, .v (.sl (a.map .s))),(1, .v (.sl (b.map .s))),(12, .v (.i .i64 a.length)),(13, .v (.i .i64 (i:Nat)))],[],_⟩) (fun i=>i≤a.length∧ ∀j,j<i→a.getD j []=b.getD j []) 0 (fun _=>Nat.le_refl _) ⟨Nat.zero_le _,fun j hj=>by omega⟩ ?_ ?_
  ·exact lE
  ·rintro i ⟨hi,hx⟩ R hR
   by_cases hlt:i<a.length
   ·have e1:=getD_S hlt;have e2:=getD_S (l:=b) (x:=i) (by omega)
    by_cases he:a.getD i []=b.getD i []
    ·have e3: ∀ _:True,(a.getD i []==b.getD i [])=true:=fun _=>by rw[he];exact beq_self_eq_true _
     repeat' first|simp only[go_sem,seval,e1,e2,e3 trivial]|refine sB ?_|(first|apply pX|apply bX)<;>intro hc|refine⟨oD,?_⟩|exact oD|fail
     refine hR (i+1) ⟨by omega,fun j hj=> ?_⟩ (by omega) _ ?_
     ·by_cases e:j=i
      ·rw[e];exact he
      ·exact hx j (by omega)
     ·exact lE
    ·have e3: ∀ _:True,(a.getD i []==b.getD i [])=false:=fun _=>beq_eq_false_iff_ne.2 he
     have hne:decide (a=b)=false:=decide_eq_false fun h=>he (by rw[h])
     rw[hne];repeat' first|simp only[go_sem,seval,e1,e2,e3 trivial]|refine sB ?_|(first|apply pX|apply bX)<;>intro hc|refine⟨oD,?_⟩|exact oD|fail
   ·obtain rfl:i=a.length:=by omega
    have:a=b:=by
     refine List.ext_getElem hlen fun j h1 h2=> ?_
     have:=hx j h1;simpa[List.getD_eq_getElem?_getD,h1,h2]using this
    rw[decide_eq_true this];repeat' first|simp only[go_sem,seval]|refine sB ?_|(first|apply pX|apply bX)<;>intro hc|refine⟨oD,?_⟩|exact oD|fail
 ·have hne:decide (a=b)=false:=decide_eq_false fun h=>hlen (by rw[h])
  rw[hne];refine eW Tryz.call17 Tryz.func17 ?_;repeat' first|simp only[go_sem,seval]|refine sB ?_|(first|apply pX|apply bX)<;>intro hc|refine⟨oD,?_⟩|exact oD|fail
  all_goals skip
def Par.nums2 (p:Par):List Bytes:=[p.c,p.sl,p.mm,p.mo,p.mg,p.mh,p.wm,p.wo,p.wg,p.wh,p.se,p.at',p.ha,p.el,p.es,p.bl,p.ma]
def shortB (p:Par):Bool:=p.nums2.all fun x=>decide (x.length≤8)
theorem short_of {p:Par} (h:shortB p=true):p.short:=by
 simp only[shortB,Par.nums2,List.all_cons,List.all_nil,Bool.and_eq_true,decide_eq_true_eq,and_true]at h;unfold Par.short Par.nums;simp only[List.forall_mem_cons,List.not_mem_nil,false_implies,implies_true,and_true];obtain⟨h1,h2,h3,h4,h5,h6,h7,h8,h9,h10,h11,h12,h13,h14,h15,h16,h17⟩:=h;exact⟨h1,h2,h11,h12,h13,h14,h15,h16,h17,h3,h4,h5,h6,h7,h8,h9,h10⟩
theorem Numbers_ok (p:Par):EvP Tryz.prog 30 [p.pv] (.sl (p.nums2.map .s)):=by
 obtain⟨c,sl,mm,mo,mg,mh,wm,wo,wg,wh,se,at',ha,el,es,bl,ma⟩:=p;unfold Par.pv Par.nums2;simp only;refine eW Tryz.call30 Tryz.func30 ?_;repeat' first|simp only[go_sem,seval]|refine sB ?_|(first|apply pX|apply bX)<;>intro hc|refine⟨oD,?_⟩|exact oD|fail
theorem Short_ok (p:Par):EvP Tryz.prog 14 [p.pv] (.b (shortB p)):=by
 have hn:=Numbers_ok p;unfold shortB;have hlen:p.nums2.length=17:=rfl;generalize p.nums2=l at*;unfold Par.pv at*;refine eW Tryz.call14 Tryz.func14 ?_;repeat' first|simp only[go_sem,seval]|refine cP hn ?_|refine sB ?_|(first|apply pX|apply bX)<;>intro hc|refine⟨oD,?_⟩|exact oD|fail
 refine loop_run (α:=Nat) (fun i=>l.length-i) (fun i=>⟨[(3, .v (.sl (l.map .s))),(4, .v (.i .i64 (i:Nat)))],[],_⟩) (fun i=>i≤l.length∧ ∀j,j<i→(l.getD j []).length≤8) 0 (fun _=>Nat.le_refl _) ⟨Nat.zero_le _,fun j hj=>by omega⟩ ?_ ?_
 ·exact lE
 ·rintro i ⟨hi,hx⟩ R hR
  by_cases hlt:i<l.length
  ·have e1:=getD_S hlt
   by_cases he:(l.getD i []).length≤8
   ·repeat' first|simp only[go_sem,seval,e1]|refine sB ?_|(first|apply pX|apply bX)<;>intro hc|refine⟨oD,?_⟩|exact oD|fail
    refine hR (i+1) ⟨by omega,fun j hj=> ?_⟩ (by omega) _ ?_
    ·by_cases e:j=i
     ·rw[e];exact he
     ·exact hx j (by omega)
    ·exact lE
   ·have:(l.all fun x=>decide (x.length≤8))=false:=by
     rw[Bool.eq_false_iff];intro g;have:=List.all_eq_true.1 g _ (getD_mem hlt);exact he (by simpa using this)
    rw[this];repeat' first|simp only[go_sem,seval,e1]|refine sB ?_|(first|apply pX|apply bX)<;>intro hc|refine⟨oD,?_⟩|exact oD|fail
  ·obtain rfl:i=l.length:=by omega
   have:(l.all fun x=>decide (x.length≤8))=true:=by
    rw[List.all_eq_true];intro x hm;obtain⟨j,h1,rfl⟩:=List.getElem_of_mem hm;have:=hx j h1;simpa[List.getD_eq_getElem?_getD,h1]using this
   rw[this];repeat' first|simp only[go_sem,seval]|refine sB ?_|(first|apply pX|apply bX)<;>intro hc|refine⟨oD,?_⟩|exact oD|fail
theorem short_ok (l:List Bytes) (hl:l.length<4611686018427387904):EvP Tryz.prog 6 [.sl (l.map .s)] (.b (l.all fun x=>decide (x.length≤16))):=by
 refine eW Tryz.call6 Tryz.func6 ?_;repeat' first|simp only[go_sem,seval]|refine sB ?_|(first|apply pX|apply bX)<;>intro hc|refine⟨oD,?_⟩|exact oD|fail
 refine loop_run (α:=Nat) (fun i=>l.length-i) (fun i=>⟨[(0, .v (.sl (l.map .s))),(3, .v (.i .i64 (i:Nat)))],[],_⟩) (fun i=>i≤l.length∧ ∀j,j<i→(l.getD j []).length≤16) 0 (fun _=>Nat.le_refl _) ⟨Nat.zero_le _,fun j hj=>by omega⟩ ?_ ?_
 ·exact lE
 ·rintro i ⟨hi,hx⟩ R hR
  by_cases hlt:i<l.length
  ·have e1:=getD_S hlt
   by_cases he:(l.getD i []).length≤16
   ·repeat' first|simp only[go_sem,seval,e1]|refine sB ?_|(first|apply pX|apply bX)<;>intro hc|refine⟨oD,?_⟩|exact oD|fail
    refine hR (i+1) ⟨by omega,fun j hj=> ?_⟩ (by omega) _ ?_
    ·by_cases e:j=i
     ·rw[e];exact he
     ·exact hx j (by omega)
    ·exact lE
   ·have:(l.all fun x=>decide (x.length≤16))=false:=by
     rw[Bool.eq_false_iff];intro g;have:=List.all_eq_true.1 g _ (getD_mem hlt);exact he (by simpa using this)
    rw[this];repeat' first|simp only[go_sem,seval,e1]|refine sB ?_|(first|apply pX|apply bX)<;>intro hc|refine⟨oD,?_⟩|exact oD|fail
  ·obtain rfl:i=l.length:=by omega
   have:(l.all fun x=>decide (x.length≤16))=true:=by
    rw[List.all_eq_true];intro x hm;obtain⟨j,h1,rfl⟩:=List.getElem_of_mem hm;have:=hx j h1;simpa[List.getD_eq_getElem?_getD,h1]using this
   rw[this];repeat' first|simp only[go_sem,seval]|refine sB ?_|(first|apply pX|apply bX)<;>intro hc|refine⟨oD,?_⟩|exact oD|fail
def fewB (p:Par) (k:Key):Bool:=shortB p&&decide ((k.name.length:Int)≤60)&&decide ((k.m.length:Int)≤8)&&decide ((k.o.length:Int)≤8)&&decide ((k.r.length:Int)≤20)&&(k.r.all fun x=>decide (x.length≤16))&&([k.s,k.z,k.u,k.h].all fun x=>decide (x.length≤16))
theorem Few_ok (p:Par) (k:Key) (hr:k.r.length<4611686018427387904):EvP Tryz.prog 5 [p.pv,k.pv] (.b (fewB p k)):=by
 have h1:=Short_ok p;have h2:=short_ok k.r hr;have h3:=short_ok [k.s,k.z,k.u,k.h] (by simp)
 unfold fewB;generalize shortB p=b1 at*;generalize (k.r.all fun x=>decide (x.length≤16))=b2 at*
 generalize ([k.s,k.z,k.u,k.h].all fun x=>decide (x.length≤16))=b3 at*
 unfold Key.pv Par.pv at*;simp only[List.map_cons,List.map_nil]at h3;refine eW Tryz.call5 Tryz.func5 ?_;repeat' first|simp only[go_sem,seval]|refine cP h1 ?_|refine cP h2 ?_|refine cP h3 ?_|refine sB ?_|(first|apply pX|apply bX)<;>intro hc|refine⟨oD,?_⟩|exact oD|fail
 all_goals simp_all
 all_goals (intros;omega)
end Go.Proofs.YtmledjfbgjnknaaGreatDoor
