/-
  Part of the proof, part 28. Own work.
-/
import Derived.Test.YtmledjfbgjnknaaGreatDoorM27
import Derived.Test.YtmledjfbgjnknaaGreatDoorM26
set_option linter.all false
namespace Go.Proofs.YtmledjfbgjnknaaGreatDoor
open Go Go.Dom Go.Num
set_option maxRecDepth 100000
set_option maxHeartbeats 16000000
def gE (m o:Bytes):Int:=if !(validN m&&validN o)then 3 else if o==[]then(if goodB m []then 0 else 13)else if num m≤1∨num o≤1∨(num m-1)%num o≠0 then 13 else 0
def gHas (m o x:Bytes):Bool:=if o==[]then rHas m [] x else pgHas m o x
def gIn (m o x:Bytes):Bool:=decide (gE m o=0)&&gHas m o x
structure GP (m o:Bytes) (n:Nat):Prop where
 lt:n<num m
 cop:Nat.gcd n (num m)=1
 ord:o=[]∨n^num o%num m=1%num m
theorem gE_m {m o:Bytes} (h:gE m o=0):validN m=true∧validN o=true∧1<num m∧(o=[]→goodB m []=true)∧(o≠[]→1<num o∧(num m-1)%num o=0):=by
 unfold gE at h
 split at h
 ·cases h
 ·rename_i h1;have h1:validN m=true∧validN o=true:=by simpa using h1
  split at h
  ·rename_i h2
   split at h
   ·rename_i h3;have h4:8<num m:=by simp only[goodB,Bool.and_eq_true,decide_eq_true_eq]at h3;exact h3.2
    exact⟨h1.1,h1.2,by omega,fun _=>h3,fun g=>absurd (by simpa using h2) g⟩
   ·cases h
  ·rename_i h2
   split at h
   ·cases h
   ·rename_i h3;exact⟨h1.1,h1.2,by omega,fun g=>absurd g (by simpa using h2),fun _=>by omega⟩
theorem gcd_of_inv {x i m:Nat} (hm:1<m) (h:x*i%m=1%m):Nat.gcd x m=1:=by
 have h1:Nat.gcd x m∣x*i%m:=by
  have d1:Nat.gcd x m∣x*i:=Nat.dvd_trans (Nat.gcd_dvd_left x m) (Nat.dvd_mul_right x i);exact(Nat.dvd_mod_iff (Nat.gcd_dvd_right x m)).2 d1
 rw[h,Nat.mod_eq_of_lt hm]at h1;exact Nat.dvd_one.1 h1
theorem gHas_iff {m o x:Bytes} (h:gE m o=0):gHas m o x=true↔validN x=true∧GP m o (num x):=by
 obtain⟨vm,vo,m1,hr,hp⟩:=gE_m h;unfold gHas
 by_cases ho:o=[]
 ·subst ho;have hb:=hr rfl;simp only[beq_self_eq_true,if_true,rHas,hb,Bool.and_eq_true,decide_eq_true_eq,Bool.not_eq_true',beq_eq_false_iff_ne,true_and];constructor
  ·rintro⟨⟨⟨h1,h2⟩,h3⟩,h4⟩;exact⟨h1,h3,h4, .inl rfl⟩
  ·rintro⟨h1,h3,h4,-⟩;refine⟨⟨⟨h1,?_⟩,h3⟩,h4⟩;intro e;subst e;simp[num]at h4;omega
 ·have hb:(o==([]:Bytes))=false:=by simpa using ho
  obtain⟨o1,od⟩:=hp ho;simp only[hb,Bool.false_eq_true,if_false,pgHas,vm,vo,Bool.and_eq_true,decide_eq_true_eq,Bool.not_eq_true',beq_eq_false_iff_ne,true_and,Bool.not_false,and_true];constructor
  ·rintro⟨⟨⟨h1,h2⟩,h3⟩,h4⟩;have:num x^num o=num x*num x^(num o-1):=by rw[←Nat.pow_succ'];congr 1;omega
   rw[this]at h4;exact⟨h1,h3,gcd_of_inv m1 h4, .inr (by rw[this];exact h4)⟩
  ·rintro⟨h1,h3,h4,h5⟩;refine⟨⟨⟨h1,?_⟩,h3⟩,h5.resolve_left ho⟩;intro e;subst e;simp[num]at h4;omega
theorem gcd_modl (a b:Nat):Nat.gcd (a%b) b=Nat.gcd a b:=by rw[←Nat.gcd_rec,Nat.gcd_comm]
theorem GP.unit {m o:Bytes} {n:Nat} (h:GP m o n):Unit' (num m) n:=unit_of_gcd (by have:=h.lt;omega) h.cop
theorem GP.mul {m o:Bytes} {a b:Nat} (ha:GP m o a) (hb:GP m o b):GP m o (a*b%num m):=by
 have h0:0<num m:=by have:=ha.lt;omega
 refine⟨Nat.mod_lt _ h0,?_,?_⟩
 ·rw[gcd_modl];exact Nat.Coprime.mul_left ha.cop hb.cop
 ·rcases ha.ord with h|h
  ·exact .inl h
  ·rcases hb.ord with g|g
   ·exact .inl g
   ·refine .inr ?_;rw[←Nat.pow_mod,Nat.mul_pow,Nat.mul_mod,h,g,←Nat.mul_mod,Nat.one_mul]
theorem GP.pow {m o:Bytes} {a:Nat} (ha:GP m o a) (e:Nat):GP m o (a^e%num m):=by
 have h0:0<num m:=by have:=ha.lt;omega
 refine⟨Nat.mod_lt _ h0,?_,?_⟩
 ·rw[gcd_modl];exact Nat.Coprime.pow_left e ha.cop
 ·rcases ha.ord with h|h
  ·exact .inl h
  ·refine .inr ?_;rw[←Nat.pow_mod,←Nat.pow_mul,Nat.mul_comm,Nat.pow_mul,Nat.pow_mod,h,←Nat.pow_mod,Nat.one_pow]
theorem GP.inv {m o:Bytes} {a:Nat} (ha:GP m o a) (m1:1<num m):GP m o (invN a (num m)):=by
 have h0:0<num m:=by omega
 obtain⟨g1,g2⟩:=ha.unit.inv;refine⟨g1,gcd_of_inv (i:=a) m1 (by rw[Nat.mul_comm];exact g2),?_⟩
 rcases ha.ord with h|h
 ·exact .inl h
 ·refine .inr ?_;have e1:(a*invN a (num m))^num o%num m=1%num m:=by rw[Nat.pow_mod,g2,←Nat.pow_mod,Nat.one_pow]
  rw[Nat.mul_pow,Nat.mul_mod,h,←Nat.mul_mod,Nat.one_mul]at e1;exact e1
theorem GP.powZ {m o:Bytes} {a:Nat} (ha:GP m o a) (m1:1<num m) (ng:Bool) (e:Nat):GP m o (Dom.powZ (num m) a ng e):=by
 unfold Dom.powZ;cases ng
 ·exact ha.pow e
 ·exact(ha.inv m1).pow e
theorem GP.has {m o:Bytes} {n:Nat} (h:GP m o n) (hE:gE m o=0) (lm:m.length≤8):gHas m o (bts n)=true:=by
 have:=num8 lm;exact(gHas_iff hE).2 ⟨vN (by have:=h.lt;omega),by rw[num_bts];exact h⟩
theorem gCheck_ok {m:Bytes} (lm:m.length≤8) {o:Bytes} (lo:o.length≤8):EvP Tryz.prog 50 [G m o] (E (gE m o)):=by
 by_cases ho:o=[]
 ·subst ho;have:=pwCheck_ok m;have e:gE m []=pwE m:=by
   unfold gE pwE;have hv0:validN []=true:=rfl
   cases validN m<;>simp[hv0]
  rw[e];exact this
 have hb:(o==([]:Bytes))=false:=by simpa using ho
 have v1:=natValid m;have v2:=natValid o;unfold gE
 by_cases hv:validN m=true∧validN o=true
 case neg=>
  have:(validN m&&validN o)=false:=by rw[Bool.eq_false_iff];intro g;simp at g;exact hv g
  rw[this];generalize validN m=b1 at*;generalize validN o=b2 at*;refine eW Tryz.call50 Tryz.func50 ?_;repeat' first|simp only[go_sem,seval]|refine cP v1 ?_|refine cP v2 ?_|refine sB ?_|(first|apply pX|apply bX)<;>intro hc|refine⟨oD,?_⟩|exact oD|fail
  all_goals simp_all
 obtain⟨vm,vo⟩:=hv;have nm:=num8 lm;have no:=num8 lo;have hop:num o≠0:=fun e=>ho ((num_zero vo).1 e)
 rw[vm]at v1;rw[vo]at v2;rw[vm,vo,hb];have hs:=SubN (a:=num m) (b:=1) nm (by decide)
 have hcm:=Cmp_ok o [2];rw[vo,show validN [2]=true from rfl,show num [2]=2 from rfl]at hcm
 simp only[Bool.and_self,if_true]at hcm;have hcl: ∀ _:True,decide (cmpN (num o) 2<0)=decide (num o<2):=fun _=>by
  rw[Bool.eq_iff_iff];simp[cmpN_lt]
 have e1:N (num m)= .s m:=congrArg PV.s (bts_of vm);have e2:N (num o)= .s o:=congrArg PV.s (bts_of vo);rw[e1]at hs;generalize cmpN (num o) 2=cm at*
 by_cases m0:num m=0
 ·rw[if_neg (by omega),if_neg (by omega)]at hs
  have:(if num m≤1∨num o≤1∨(num m-1)%num o≠0 then(13:Int)else 0)=13:=if_pos (by omega)
  simp only[Bool.and_self,Bool.not_true,Bool.false_eq_true,if_false,this];refine eW Tryz.call50 Tryz.func50 ?_;simp only[go_sem,seval,one_eq];repeat' first|simp only[go_sem,seval,hb,one_eq]|refine cP v1 ?_|refine cP v2 ?_|refine cP Of1 ?_|refine cP hs ?_|refine sB ?_|(first|apply pX|apply bX)<;>intro hc|refine⟨oD,?_⟩|exact oD|fail
  all_goals simp_all
 rw[if_pos (by omega),if_pos (by omega)]at hs
 by_cases m1:num m=1
 ·have:(if num m≤1∨num o≤1∨(num m-1)%num o≠0 then(13:Int)else 0)=13:=if_pos (by omega)
  simp only[Bool.and_self,Bool.not_true,Bool.false_eq_true,if_false,this];rw[m1]at hs;refine eW Tryz.call50 Tryz.func50 ?_;simp only[go_sem,seval,one_eq];repeat' first|simp only[go_sem,seval,hb,one_eq,nilT]|refine cP v1 ?_|refine cP v2 ?_|refine cP Of1 ?_|refine cP hs ?_|refine sB ?_|(first|apply pX|apply bX)<;>intro hc|refine⟨oD,?_⟩|exact oD|fail
  all_goals simp_all
 have en:=nilF (n:=num m-1) (by omega)
 have hd:=DivModN (a:=num m-1) (b:=num o) (by omega) no (by omega)
 rw[e2]at hd;have hz: ∀ _:True,(bts ((num m-1)%num o)==([]:Bytes))=decide ((num m-1)%num o=0):=fun _=>by
  rw[Bool.eq_iff_iff];simp[bts_nil]
 by_cases o1:num o<2
 ·have:(if num m≤1∨num o≤1∨(num m-1)%num o≠0 then(13:Int)else 0)=13:=if_pos (by omega)
  simp only[Bool.and_self,Bool.not_true,Bool.false_eq_true,if_false,this];rw[decide_eq_true o1]at hcl;refine eW Tryz.call50 Tryz.func50 ?_;simp only[go_sem,seval,one_eq];repeat' first|simp only[go_sem,seval,hb,one_eq,en,hcl trivial]|refine cP v1 ?_|refine cP v2 ?_|refine cP Of1 ?_|refine cP Of2 ?_|refine cP hs ?_|refine cP hcm ?_|refine sB ?_|(first|apply pX|apply bX)<;>intro hc|refine⟨oD,?_⟩|exact oD|fail
  all_goals simp_all
 rw[decide_eq_false o1]at hcl
 by_cases hd0:(num m-1)%num o=0
 ·have:(if num m≤1∨num o≤1∨(num m-1)%num o≠0 then(13:Int)else 0)=0:=if_neg (by omega)
  simp only[Bool.and_self,Bool.not_true,Bool.false_eq_true,if_false,this];rw[hd0]at hd;refine eW Tryz.call50 Tryz.func50 ?_;simp only[go_sem,seval,one_eq];repeat' first|simp only[go_sem,seval,hb,one_eq,en,hcl trivial,nilT]|refine cP v1 ?_|refine cP v2 ?_|refine cP Of1 ?_|refine cP Of2 ?_|refine cP hs ?_|refine cP hcm ?_|refine cP hd ?_|refine sB ?_|(first|apply pX|apply bX)<;>intro hc|refine⟨oD,?_⟩|exact oD|fail
  all_goals simp_all
 ·have:(if num m≤1∨num o≤1∨(num m-1)%num o≠0 then(13:Int)else 0)=13:=if_pos (by omega)
  simp only[Bool.and_self,Bool.not_true,Bool.false_eq_true,if_false,this];have en2:=nilF hd0;refine eW Tryz.call50 Tryz.func50 ?_;simp only[go_sem,seval,one_eq];repeat' first|simp only[go_sem,seval,hb,one_eq,en,hcl trivial,en2]|refine cP v1 ?_|refine cP v2 ?_|refine cP Of1 ?_|refine cP Of2 ?_|refine cP hs ?_|refine cP hcm ?_|refine cP hd ?_|refine sB ?_|(first|apply pX|apply bX)<;>intro hc|refine⟨oD,?_⟩|exact oD|fail
  all_goals simp_all
theorem ghas_ok {m:Bytes} (lm:m.length≤8) (o x:Bytes):EvP Tryz.prog 105 [G m o, .s x] (.b (gHas m o x)):=by
 by_cases ho:o=[]
 ·subst ho;exact pwhas_ok lm x
 ·have hb:(o==([]:Bytes))=false:=by simpa using ho
  have h:=pgHas_ok lm o x;unfold gHas;rw[hb];simp only[Bool.false_eq_true,if_false];refine eW Tryz.call105 Tryz.func105 ?_;repeat' first|simp only[go_sem,seval,hb]|refine cP h ?_|refine sB ?_|(first|apply pX|apply bX)<;>intro hc|refine⟨oD,?_⟩|exact oD|fail
theorem gIn_ok {m:Bytes} (lm:m.length≤8) {o:Bytes} (lo:o.length≤8) (x:Bytes):EvP Tryz.prog 51 [G m o, .s x] (.b (gIn m o x)):=by
 have h1:=gCheck_ok lm lo;have h2:=ghas_ok lm o x;unfold gIn;generalize gE m o=z at*;generalize gHas m o x=b at*;refine eW Tryz.call51 Tryz.func51 ?_;repeat' first|simp only[go_sem,seval]|refine cP h1 ?_|refine cP h2 ?_|refine sB ?_|(first|apply pX|apply bX)<;>intro hc|refine⟨oD,?_⟩|exact oD|fail
 all_goals simp_all
theorem gProd_ok {m:Bytes} (lm:m.length≤8) {o:Bytes} (lo:o.length≤8) {x:Nat} {ng:Bool} {e:Bytes} (hE:gE m o=0) (hx:GP m o x) (he:validN e=true) (hz:(ng&&e==[])=false):EvP Tryz.prog 102 [G m o, .sl [N x], .sl [.agg [.b ng, .s e]]] (.tup [N (powZ (num m) x ng (num e)),E 0]):=by
 obtain⟨vm,vo,m1,-,-⟩:=gE_m hE;have hn:=num8 lm;have lx:=hx.lt;have c1:=natValid (bts x);rw[vN (show x<18446744073709551616 by omega)]at c1
 have c2:=iValid_ok ng e;rw[he,hz]at c2;have c3:=gCheck_ok lm lo;rw[hE]at c3;have c4:=ghas_ok lm o (bts x);rw[hx.has hE lm]at c4;have hch:EvP Tryz.prog 214 [G m o, .sl [N x], .sl [.agg [.b ng, .s e]], .b true] (E 0):=by
  refine eW Tryz.call214 Tryz.func214 ?_;repeat' first|simp only[go_sem,seval,List.getD_cons_zero,List.getD_cons_succ]|refine cP c1 ?_|refine cP c2 ?_|refine cP c3 ?_|refine cP c4 ?_|(refine loop_unroll' ?_)|refine sB ?_|(first|apply pX|apply bX)<;>intro hc|refine⟨oD,?_⟩|exact oD|fail
 have hbt:=Bits_ok he;have hbi:=fun i hi=>Bit_ok he i hi
 have hinv:=Inverse_ok (a:=x) (m:=num m) (by omega) hn (by omega) hx.cop
 have hil:=hx.unit.inv.1;clear c1 c2 c3 c4;unfold powZ;obtain⟨n,hnn⟩: ∃n,n=num e:=⟨_,rfl⟩;obtain⟨M,hM⟩: ∃M,M=num m:=⟨_,rfl⟩;have eG:G m o= .agg [N M, .s o]:=by rw[hM,show N (num m)= .s m from congrArg PV.s (bts_of vm)]
 rw[eG]at hch⊢;rw[←hM]at lx hn m1 hinv hil;rw[←hnn]at hbt hbi;rw[←hnn,←hM];clear hx;have hbl:blen n<1000000:=by
  have h1:n<2^1024:=by
   rw[hnn];refine Nat.lt_of_lt_of_le (num_lt e) ?_;have le:e.length≤128:=by simp[validN]at he;exact he.1
   exact Nat.le_trans (Nat.pow_le_pow_right (by decide) le) (by decide+kernel)
  unfold blen;split
  ·decide
  ·rename_i h;have:=(Nat.log2_lt h).2 h1;omega
 have hmx: ∀ _:True,(if(blen n:Int)>0 then(blen n:Int)else 0)=(blen n:Int):=fun _=>by split<;>omega
 have hM1:1%M=1:=Nat.mod_eq_of_lt (by omega)
 have hw1: ∀ _:True,IntKind.i64.wrap ((blen n:Int)-1)=(blen n:Int)-1:=fun _=>IntWalk.i64_in _ (by omega)
 cases ng
 ·simp only[Bool.false_eq_true,if_false];obtain⟨xm,hxm⟩: ∃xm,xm=x:=⟨_,rfl⟩;rw[←hxm]at hch lx⊢;refine eW Tryz.call102 Tryz.func102 ?_;repeat' first|simp only[go_sem,seval,List.getD_cons_zero,List.getD_cons_succ,mks1,drop1,take1,set1,hmx trivial,hw1 trivial,one_eq]|refine cP hch ?_|refine cP hbt ?_|refine cP Of1 ?_|refine sB ?_|(first|apply pX|apply bX)<;>intro hc|refine⟨oD,?_⟩|exact oD|fail
  refine loop_unroll' ?_;repeat' first|simp only[go_sem,seval,List.getD_cons_zero,List.getD_cons_succ,mks1,drop1,take1,set1,hmx trivial,hw1 trivial,one_eq]|refine cP hch ?_|refine cP hbt ?_|refine cP Of1 ?_|refine sB ?_|(first|apply pX|apply bX)<;>intro hc|refine⟨oD,?_⟩|exact oD|fail
  refine loop_unroll' ?_;repeat' first|simp only[go_sem,seval,List.getD_cons_zero,List.getD_cons_succ,mks1,drop1,take1,set1,hmx trivial,hw1 trivial,one_eq]|refine cP hch ?_|refine cP hbt ?_|refine cP Of1 ?_|refine sB ?_|(first|apply pX|apply bX)<;>intro hc|refine⟨oD,?_⟩|exact oD|fail
  refine loop_run (α:=Nat) (fun k=>k) (fun k=>⟨[(2, .v (.sl [.agg [.b false, .s e]])),(9, .rs 1017 0 0 1 1),(15, .p 1052 0 0),(16, .fn (.func 216) [] [.p 1052 0 0, .p 1000 0 0]),(17, .v (.i .i64 ((k:Int)-1)))],[(1052,⟨0,[.v (N (xm^(n/2^k)%M))],false,some 22⟩),(1017,⟨0,[.v (N xm)],false,none⟩),(1000,⟨0,[.v (N M), .v (.s o)],false,none⟩)],_⟩) (fun k=>k≤blen n) (blen n) (fun _=>Nat.le_refl _) (Nat.le_refl _) ?_ ?_
  ·(refine AS.Le.of (by first|decide|omega) ?_ ?_<;>simp[LeT,LeH,tget,hget,AV.bd,AV.bd.bdL,u8,bd_cellsOf,bcells_bd,icells_bd])
   rw[blen0,Nat.pow_zero,hM1]
  ·intro k hk R hR
   cases k with
   |zero=>
    repeat' first|simp only[go_sem,seval]|refine sB ?_|(first|apply pX|apply bX)<;>intro hc|refine⟨oD,?_⟩|exact oD|fail
    rw[Nat.div_one]
   |succ k=>
    obtain⟨z,hz⟩: ∃z,z=xm^(n/2^(k+1))%M:=⟨_,rfl⟩;have hzm:z<M:=by rw[hz];exact Nat.mod_lt _ (by omega)
    have e1: ∀ _:True,((k+1:Nat):Int)-1=(k:Int):=fun _=>by omega
    have hge: ∀ _:True,decide ((k:Int)≥0)=true:=fun _=>by simp
    have hbit:=hbi k (by omega)
    have hdec:n.testBit k=decide (n/2^k%2=1):=Nat.testBit_eq_decide_div_mod_eq;rw[hdec]at hbit;have hwk: ∀ _:True,IntKind.i64.wrap ((k:Int)-1)=(k:Int)-1:=fun _=>IntWalk.i64_in _ (by omega)
    have hdd:n/2^(k+1)=n/2^k/2:=by rw[Nat.pow_succ,Nat.div_div_eq_div_mul]
    have hzz:z*z%M<M:=Nat.mod_lt _ (by omega)
    rw[←hz];have hx1:=fun nm=>times1_ok 1052 1000 nm (by decide) o (some 22) none (a:=z) (b:=z) (m:=M) (by omega) (by omega) (by omega) (by omega)
    have hx2:=fun nm=>times1_ok 1052 1000 nm (by decide) o (some 22) none (a:=z*z%M) (b:=xm) (m:=M) (by omega) (by omega) (by omega) (by omega)
    repeat' first|simp only[go_sem,seval,e1 trivial,hge trivial,List.getD_cons_zero,List.getD_cons_succ,take1]|(refine CR_eff (hx1 _) (by simp[hget]) ?_)|refine sB ?_|(first|apply pX|apply bX)<;>intro hc|refine⟨oD,?_⟩|exact oD|fail
    refine loop_unroll' ?_;repeat' first|simp only[go_sem,seval,hge trivial,hwk trivial,List.getD_cons_zero,List.getD_cons_succ,take1]|refine cP hbit ?_|(refine CR_eff (hx2 _) (by simp[hget]) ?_)|(refine loop_unroll' ?_)|refine sB ?_|(first|apply pX|apply bX)<;>intro hc|refine⟨oD,?_⟩|exact oD|fail
    ·have hb2:n/2^k=2*(n/2^(k+1))+1:=by omega
     refine hR k (by omega) (by omega) _ ?_
     have ez:z*z%M*xm%M=xm^(n/2^k)%M:=by
      have e3:z*z%M=xm^(n/2^(k+1))*xm^(n/2^(k+1))%M:=by rw[hz,←Nat.mul_mod]
      rw[hb2,Nat.pow_succ,Nat.two_mul,Nat.pow_add,e3,Nat.mod_mul_mod]
     rw[←ez];exact lE
    ·have hb2:n/2^k=2*(n/2^(k+1)):=by omega
     refine hR k (by omega) (by omega) _ ?_
     have ez:z*z%M=xm^(n/2^k)%M:=by
      rw[hb2,Nat.two_mul,Nat.pow_add,hz,←Nat.mul_mod]
     rw[←ez];exact lE
 ·simp only[if_true];obtain⟨xm,hxm⟩: ∃xm,xm=invN x M:=⟨_,rfl⟩;rw[←hxm]at hinv hil⊢;refine eW Tryz.call102 Tryz.func102 ?_;repeat' first|simp only[go_sem,seval,List.getD_cons_zero,List.getD_cons_succ,mks1,drop1,take1,set1,hmx trivial,hw1 trivial,one_eq]|refine cP hch ?_|refine cP hbt ?_|refine cP Of1 ?_|refine cP hinv ?_|refine sB ?_|(first|apply pX|apply bX)<;>intro hc|refine⟨oD,?_⟩|exact oD|fail
  refine loop_unroll' ?_;repeat' first|simp only[go_sem,seval,List.getD_cons_zero,List.getD_cons_succ,mks1,drop1,take1,set1,hmx trivial,hw1 trivial,one_eq]|refine cP hch ?_|refine cP hbt ?_|refine cP Of1 ?_|refine cP hinv ?_|refine sB ?_|(first|apply pX|apply bX)<;>intro hc|refine⟨oD,?_⟩|exact oD|fail
  refine loop_unroll' ?_;repeat' first|simp only[go_sem,seval,List.getD_cons_zero,List.getD_cons_succ,mks1,drop1,take1,set1,hmx trivial,hw1 trivial,one_eq]|refine cP hch ?_|refine cP hbt ?_|refine cP Of1 ?_|refine cP hinv ?_|refine sB ?_|(first|apply pX|apply bX)<;>intro hc|refine⟨oD,?_⟩|exact oD|fail
  refine loop_run (α:=Nat) (fun k=>k) (fun k=>⟨[(2, .v (.sl [.agg [.b true, .s e]])),(9, .rs 1017 0 0 1 1),(15, .p 1068 0 0),(16, .fn (.func 216) [] [.p 1068 0 0, .p 1000 0 0]),(17, .v (.i .i64 ((k:Int)-1)))],[(1068,⟨0,[.v (N (xm^(n/2^k)%M))],false,some 22⟩),(1017,⟨0,[.v (N xm)],false,none⟩),(1000,⟨0,[.v (N M), .v (.s o)],false,none⟩)],_⟩) (fun k=>k≤blen n) (blen n) (fun _=>Nat.le_refl _) (Nat.le_refl _) ?_ ?_
  ·(refine AS.Le.of (by first|decide|omega) ?_ ?_<;>simp[LeT,LeH,tget,hget,AV.bd,AV.bd.bdL,u8,bd_cellsOf,bcells_bd,icells_bd])
   rw[blen0,Nat.pow_zero,hM1]
  ·intro k hk R hR
   cases k with
   |zero=>
    repeat' first|simp only[go_sem,seval]|refine sB ?_|(first|apply pX|apply bX)<;>intro hc|refine⟨oD,?_⟩|exact oD|fail
    rw[Nat.div_one]
   |succ k=>
    obtain⟨z,hz⟩: ∃z,z=xm^(n/2^(k+1))%M:=⟨_,rfl⟩;have hzm:z<M:=by rw[hz];exact Nat.mod_lt _ (by omega)
    have e1: ∀ _:True,((k+1:Nat):Int)-1=(k:Int):=fun _=>by omega
    have hge: ∀ _:True,decide ((k:Int)≥0)=true:=fun _=>by simp
    have hbit:=hbi k (by omega)
    have hdec:n.testBit k=decide (n/2^k%2=1):=Nat.testBit_eq_decide_div_mod_eq;rw[hdec]at hbit;have hwk: ∀ _:True,IntKind.i64.wrap ((k:Int)-1)=(k:Int)-1:=fun _=>IntWalk.i64_in _ (by omega)
    have hdd:n/2^(k+1)=n/2^k/2:=by rw[Nat.pow_succ,Nat.div_div_eq_div_mul]
    have hzz:z*z%M<M:=Nat.mod_lt _ (by omega)
    rw[←hz];have hx1:=fun nm=>times1_ok 1068 1000 nm (by decide) o (some 22) none (a:=z) (b:=z) (m:=M) (by omega) (by omega) (by omega) (by omega)
    have hx2:=fun nm=>times1_ok 1068 1000 nm (by decide) o (some 22) none (a:=z*z%M) (b:=xm) (m:=M) (by omega) (by omega) (by omega) (by omega)
    repeat' first|simp only[go_sem,seval,e1 trivial,hge trivial,List.getD_cons_zero,List.getD_cons_succ,take1]|(refine CR_eff (hx1 _) (by simp[hget]) ?_)|refine sB ?_|(first|apply pX|apply bX)<;>intro hc|refine⟨oD,?_⟩|exact oD|fail
    refine loop_unroll' ?_;repeat' first|simp only[go_sem,seval,hge trivial,hwk trivial,List.getD_cons_zero,List.getD_cons_succ,take1]|refine cP hbit ?_|(refine CR_eff (hx2 _) (by simp[hget]) ?_)|(refine loop_unroll' ?_)|refine sB ?_|(first|apply pX|apply bX)<;>intro hc|refine⟨oD,?_⟩|exact oD|fail
    ·have hb2:n/2^k=2*(n/2^(k+1))+1:=by omega
     refine hR k (by omega) (by omega) _ ?_
     have ez:z*z%M*xm%M=xm^(n/2^k)%M:=by
      have e3:z*z%M=xm^(n/2^(k+1))*xm^(n/2^(k+1))%M:=by rw[hz,←Nat.mul_mod]
      rw[hb2,Nat.pow_succ,Nat.two_mul,Nat.pow_add,e3,Nat.mod_mul_mod]
     rw[←ez];exact lE
    ·have hb2:n/2^k=2*(n/2^(k+1)):=by omega
     refine hR k (by omega) (by omega) _ ?_
     have ez:z*z%M=xm^(n/2^k)%M:=by
      rw[hb2,Nat.two_mul,Nat.pow_add,hz,←Nat.mul_mod]
     rw[←ez];exact lE
end Go.Proofs.YtmledjfbgjnknaaGreatDoor
namespace Go.Proofs.YtmledjfbgjnknaaGreatDoor
open Go Go.Dom Go.Num
set_option maxRecDepth 100000
set_option maxHeartbeats 8000000
structure Trm where
 (base:Bytes) (var:Int) (neg:Bool) (abs:Bytes)
def Trm.pv:Trm→PV
 |⟨b,v,n,a⟩=> .agg [.s b, .i .i64 v, .b n, .s a]
structure Eqn where
 (grp:Int) (tgt:Bytes) (terms:List Trm)
def Eqn.pv:Eqn→PV
 |⟨g,t,l⟩=> .agg [.i .i64 g, .s t, .sl (l.map Trm.pv)]
def gpv:Bytes×Bytes→PV
 |(m,o)=> .agg [.s m, .s o]
def vpv (b:Bytes):PV:= .agg [.s b]
def ipv:Bool×Bytes→PV
 |(n,a)=> .agg [.b n, .s a]
structure Stm where
 (groups:List (Bytes×Bytes)) (vars:List Bytes) (eqs:List Eqn)
def Stm.pv (s:Stm):PV:= .agg [.sl (s.groups.map gpv), .sl (s.vars.map vpv), .sl (s.eqs.map Eqn.pv)]
def ipz (z:Int):Bool×Bytes:=(zs z,zb z)
theorem ipv_ipz (z:Int):ipv (ipz z)=Z z:=rfl
def Zp (z:Int):PV:=ipv (ipz z)
def izok (x:Bool×Bytes):Bool:=validN x.2&& !(x.1&&x.2==[])
def d0T:Trm:=⟨[],0,false,[]⟩
def d0Q:Eqn:=⟨0,[],[]⟩
def d0G:Bytes×Bytes:=([],[])
def d0I:Bool×Bytes:=(false,[])
structure StOK (s:Stm):Prop where
 g: ∀p∈s.groups,gE p.1 p.2=0∧p.1.length≤8∧p.2.length≤8
 v: ∀b∈s.vars,validN b=true∧b≠[]∧b.length≤16
 q: ∀q∈s.eqs,0≤q.grp∧q.grp<s.groups.length∧gHas (s.groups.getD q.grp.toNat d0G).1 (s.groups.getD q.grp.toNat d0G).2 q.tgt=true∧q.terms.length≤64∧
  ∀t∈q.terms,0≤t.var∧t.var<s.vars.length∧gHas (s.groups.getD q.grp.toNat d0G).1 (s.groups.getD q.grp.toNat d0G).2 t.base=true∧izok (t.neg,t.abs)=true
 ng:s.groups.length≤8
 nv:s.vars.length≤64
 ne:s.eqs.length≤64
theorem getD_map {α:Type} (f:α→PV) (l:List α) (d:α) {i:Nat} (h:i<l.length):(l.map f).getD i .fn0=f (l.getD i d):=by
 simp[List.getD_eq_getElem?_getD,h]
theorem drop_getD {α:Type} {l:List α} {i:Nat} (d:α) (h:i<l.length):l.drop i=l.getD i d::l.drop (i+1):=by
 rw[List.drop_eq_getElem_cons h,List.getD_eq_getElem?_getD,List.getElem?_eq_getElem h];rfl
theorem mem_getD {α:Type} {l:List α} {i:Nat} (d:α) (h:i<l.length):l.getD i d∈l:=by
 rw[List.getD_eq_getElem?_getD,List.getElem?_eq_getElem h];exact List.getElem_mem h
theorem gHas_valid {m o x:Bytes} (hE:gE m o=0) (h:gHas m o x=true):validN x=true:=((gHas_iff hE).1 h).1
theorem IndexFuncI_ok (l:List (Bool×Bytes)) (f:FuncId) (p:(Bool×Bytes)→Bool) (hl:l.length<4611686018427387904) (h: ∀x,EvP Tryz.prog f [ipv x] (.b (p x))):EvP Tryz.prog 221 [.sl (l.map ipv), .fn (.func f)] (E (idxF p 0 l)):=by
 have hlm:(l.map ipv).length=l.length:=List.length_map ..;refine eW Tryz.call221 Tryz.func221 ?_;repeat' first|simp only[go_sem,seval,hlm]|refine sB ?_|(first|apply pX|apply bX)<;>intro hc|refine⟨oD,?_⟩|exact oD|fail
 refine loop_run (α:=Nat) (fun i=>l.length-i) (fun i=>⟨[(0, .v (.sl (l.map ipv))),(1, .v (.fn (.func f))),(7, .v (.i .i64 l.length)),(8, .v (.i .i64 (i:Nat)))],[],_⟩) (fun i=>i≤l.length∧idxF p i (l.drop i)=idxF p 0 l) 0 (fun _=>Nat.le_refl _) ⟨Nat.zero_le _,rfl⟩ ?_ ?_
 ·exact lE
 ·rintro i ⟨hi,hx⟩ R hR;rw[←hx]
  by_cases hlt:i<l.length
  ·have e1:=getD_map ipv l d0I hlt;have hf:=h (l.getD i d0I);have hgo:=hR (i+1);rw[←hx,drop_getD d0I hlt]at hgo;rw[drop_getD d0I hlt];simp only[idxF]at hgo⊢;clear hx hR h;obtain⟨b,hb⟩: ∃b,b=p (l.getD i d0I):=⟨_,rfl⟩;rw[←hb]at hf hgo⊢;clear hb;obtain⟨x,hxx⟩: ∃x,x=l.getD i d0I:=⟨_,rfl⟩;rw[←hxx]at e1 hf;clear hxx;cases x;simp only[ipv]at e1 hf;cases b
   ·have hgo:=hgo ⟨by omega,rfl⟩ (by omega)
    repeat' first|simp only[go_sem,seval,hlm,e1]|refine cP hf ?_|refine sB ?_|(first|apply pX|apply bX)<;>intro hc|refine⟨oD,?_⟩|exact oD|fail
    refine hgo _ ?_;exact lE
   ·repeat' first|simp only[go_sem,seval,hlm,e1]|refine cP hf ?_|refine sB ?_|(first|apply pX|apply bX)<;>intro hc|refine⟨oD,?_⟩|exact oD|fail
    all_goals rfl
  ·obtain rfl:i=l.length:=by omega
   rw[List.drop_length];repeat' first|simp only[go_sem,seval,hlm]|refine sB ?_|(first|apply pX|apply bX)<;>intro hc|refine⟨oD,?_⟩|exact oD|fail
   all_goals simp[idxF]
theorem ContainsFuncI_ok (l:List (Bool×Bytes)) (f:FuncId) (p:(Bool×Bytes)→Bool) (hl:l.length<4611686018427387904) (h: ∀x,EvP Tryz.prog f [ipv x] (.b (p x))):EvP Tryz.prog 110 [.sl (l.map ipv), .fn (.func f)] (.b (l.any p)):=by
 have hi:=IndexFuncI_ok l f p hl h;have e:decide (idxF p 0 l≥0)=l.any p:=by
  rw[Bool.eq_iff_iff,decide_eq_true_iff];exact idxF_neg
 refine eW Tryz.call110 Tryz.func110 ?_;repeat' first|simp only[go_sem,seval,e]|refine cP hi ?_|refine sB ?_|(first|apply pX|apply bX)<;>intro hc|refine⟨oD,?_⟩|exact oD|fail
theorem IndexFuncQ_ok (l:List Eqn) (f:FuncId) (p:Eqn→Bool) (hl:l.length<4611686018427387904) (h: ∀x,EvP Tryz.prog f [Eqn.pv x] (.b (p x))):EvP Tryz.prog 445 [.sl (l.map Eqn.pv), .fn (.func f)] (E (idxF p 0 l)):=by
 have hlm:(l.map Eqn.pv).length=l.length:=List.length_map ..;refine eW Tryz.call445 Tryz.func445 ?_;repeat' first|simp only[go_sem,seval,hlm]|refine sB ?_|(first|apply pX|apply bX)<;>intro hc|refine⟨oD,?_⟩|exact oD|fail
 refine loop_run (α:=Nat) (fun i=>l.length-i) (fun i=>⟨[(0, .v (.sl (l.map Eqn.pv))),(1, .v (.fn (.func f))),(7, .v (.i .i64 l.length)),(8, .v (.i .i64 (i:Nat)))],[],_⟩) (fun i=>i≤l.length∧idxF p i (l.drop i)=idxF p 0 l) 0 (fun _=>Nat.le_refl _) ⟨Nat.zero_le _,rfl⟩ ?_ ?_
 ·exact lE
 ·rintro i ⟨hi,hx⟩ R hR;rw[←hx]
  by_cases hlt:i<l.length
  ·have e1:=getD_map Eqn.pv l d0Q hlt;have hf:=h (l.getD i d0Q);have hgo:=hR (i+1);rw[←hx,drop_getD d0Q hlt]at hgo;rw[drop_getD d0Q hlt];simp only[idxF]at hgo⊢;clear hx hR h;obtain⟨b,hb⟩: ∃b,b=p (l.getD i d0Q):=⟨_,rfl⟩;rw[←hb]at hf hgo⊢;clear hb;obtain⟨x,hxx⟩: ∃x,x=l.getD i d0Q:=⟨_,rfl⟩;rw[←hxx]at e1 hf;clear hxx;cases x;simp only[Eqn.pv]at e1 hf;cases b
   ·have hgo:=hgo ⟨by omega,rfl⟩ (by omega)
    repeat' first|simp only[go_sem,seval,hlm,e1]|refine cP hf ?_|refine sB ?_|(first|apply pX|apply bX)<;>intro hc|refine⟨oD,?_⟩|exact oD|fail
    refine hgo _ ?_;exact lE
   ·repeat' first|simp only[go_sem,seval,hlm,e1]|refine cP hf ?_|refine sB ?_|(first|apply pX|apply bX)<;>intro hc|refine⟨oD,?_⟩|exact oD|fail
    all_goals rfl
  ·obtain rfl:i=l.length:=by omega
   rw[List.drop_length];repeat' first|simp only[go_sem,seval,hlm]|refine sB ?_|(first|apply pX|apply bX)<;>intro hc|refine⟨oD,?_⟩|exact oD|fail
   all_goals simp[idxF]
theorem ContainsFuncQ_ok (l:List Eqn) (f:FuncId) (p:Eqn→Bool) (hl:l.length<4611686018427387904) (h: ∀x,EvP Tryz.prog f [Eqn.pv x] (.b (p x))):EvP Tryz.prog 411 [.sl (l.map Eqn.pv), .fn (.func f)] (.b (l.any p)):=by
 have hi:=IndexFuncQ_ok l f p hl h;have e:decide (idxF p 0 l≥0)=l.any p:=by
  rw[Bool.eq_iff_iff,decide_eq_true_iff];exact idxF_neg
 refine eW Tryz.call411 Tryz.func411 ?_;repeat' first|simp only[go_sem,seval,e]|refine cP hi ?_|refine sB ?_|(first|apply pX|apply bX)<;>intro hc|refine⟨oD,?_⟩|exact oD|fail
theorem IndexFuncT_ok (l:List Trm) (f:FuncId) (c:List PV) (p:Trm→Bool) (hl:l.length<4611686018427387904) (h: ∀x,EvP Tryz.prog f (x.pv::c) (.b (p x))):EvP Tryz.prog 446 [.sl (l.map Trm.pv), .fc f [] c] (E (idxF p 0 l)):=by
 have hlm:(l.map Trm.pv).length=l.length:=List.length_map ..;refine eW Tryz.call446 Tryz.func446 ?_;repeat' first|simp only[go_sem,seval,hlm]|refine sB ?_|(first|apply pX|apply bX)<;>intro hc|refine⟨oD,?_⟩|exact oD|fail
 refine loop_run (α:=Nat) (fun i=>l.length-i) (fun i=>⟨[(0, .v (.sl (l.map Trm.pv))),(1, .v (.fc f [] c)),(7, .v (.i .i64 l.length)),(8, .v (.i .i64 (i:Nat)))],[],_⟩) (fun i=>i≤l.length∧idxF p i (l.drop i)=idxF p 0 l) 0 (fun _=>Nat.le_refl _) ⟨Nat.zero_le _,rfl⟩ ?_ ?_
 ·exact lE
 ·rintro i ⟨hi,hx⟩ R hR;rw[←hx]
  by_cases hlt:i<l.length
  ·have e1:=getD_map Trm.pv l d0T hlt;have hf:=h (l.getD i d0T);have hgo:=hR (i+1);rw[←hx,drop_getD d0T hlt]at hgo;rw[drop_getD d0T hlt];simp only[idxF]at hgo⊢;clear hx hR h;obtain⟨b,hb⟩: ∃b,b=p (l.getD i d0T):=⟨_,rfl⟩;rw[←hb]at hf hgo⊢;clear hb;obtain⟨x,hxx⟩: ∃x,x=l.getD i d0T:=⟨_,rfl⟩;rw[←hxx]at e1 hf;clear hxx;cases x;simp only[Trm.pv]at e1 hf;cases b
   ·have hgo:=hgo ⟨by omega,rfl⟩ (by omega)
    repeat' first|simp only[go_sem,seval,hlm,e1]|(refine CR_pure hf (pvA_map _ _) ?_)|refine sB ?_|(first|apply pX|apply bX)<;>intro hc|refine⟨oD,?_⟩|exact oD|fail
    refine hgo _ ?_;exact lE
   ·repeat' first|simp only[go_sem,seval,hlm,e1]|(refine CR_pure hf (pvA_map _ _) ?_)|refine sB ?_|(first|apply pX|apply bX)<;>intro hc|refine⟨oD,?_⟩|exact oD|fail
    all_goals rfl
  ·obtain rfl:i=l.length:=by omega
   rw[List.drop_length];repeat' first|simp only[go_sem,seval,hlm]|refine sB ?_|(first|apply pX|apply bX)<;>intro hc|refine⟨oD,?_⟩|exact oD|fail
   all_goals simp[idxF]
theorem ContainsFuncT_ok (l:List Trm) (f:FuncId) (c:List PV) (p:Trm→Bool) (hl:l.length<4611686018427387904) (h: ∀x,EvP Tryz.prog f (x.pv::c) (.b (p x))):EvP Tryz.prog 413 [.sl (l.map Trm.pv), .fc f [] c] (.b (l.any p)):=by
 have hi:=IndexFuncT_ok l f c p hl h;have e:decide (idxF p 0 l≥0)=l.any p:=by
  rw[Bool.eq_iff_iff,decide_eq_true_iff];exact idxF_neg
 refine eW Tryz.call413 Tryz.func413 ?_;repeat' first|simp only[go_sem,seval,e]|refine cP hi ?_|refine sB ?_|(first|apply pX|apply bX)<;>intro hc|refine⟨oD,?_⟩|exact oD|fail
theorem IndexFuncV_ok (l:List Bytes) (f:FuncId) (p:Bytes→Bool) (hl:l.length<4611686018427387904) (h: ∀x,EvP Tryz.prog f [vpv x] (.b (p x))):EvP Tryz.prog 418 [.sl (l.map vpv), .fn (.func f)] (E (idxF p 0 l)):=by
 have hlm:(l.map vpv).length=l.length:=List.length_map ..;refine eW Tryz.call418 Tryz.func418 ?_;repeat' first|simp only[go_sem,seval,hlm]|refine sB ?_|(first|apply pX|apply bX)<;>intro hc|refine⟨oD,?_⟩|exact oD|fail
 refine loop_run (α:=Nat) (fun i=>l.length-i) (fun i=>⟨[(0, .v (.sl (l.map vpv))),(1, .v (.fn (.func f))),(7, .v (.i .i64 l.length)),(8, .v (.i .i64 (i:Nat)))],[],_⟩) (fun i=>i≤l.length∧idxF p i (l.drop i)=idxF p 0 l) 0 (fun _=>Nat.le_refl _) ⟨Nat.zero_le _,rfl⟩ ?_ ?_
 ·exact lE
 ·rintro i ⟨hi,hx⟩ R hR;rw[←hx]
  by_cases hlt:i<l.length
  ·have e1:=getD_map vpv l [] hlt;have hf:=h (l.getD i []);have hgo:=hR (i+1);rw[←hx,drop_getD [] hlt]at hgo;rw[drop_getD [] hlt];simp only[idxF]at hgo⊢;clear hx hR h;generalize p (l.getD i [])=b at*;generalize l.getD i []=x at*;simp only[vpv]at e1 hf;cases b
   ·have hgo:=hgo ⟨by omega,rfl⟩ (by omega)
    repeat' first|simp only[go_sem,seval,hlm,e1]|refine cP hf ?_|refine sB ?_|(first|apply pX|apply bX)<;>intro hc|refine⟨oD,?_⟩|exact oD|fail
    refine hgo _ ?_;exact lE
   ·repeat' first|simp only[go_sem,seval,hlm,e1]|refine cP hf ?_|refine sB ?_|(first|apply pX|apply bX)<;>intro hc|refine⟨oD,?_⟩|exact oD|fail
    all_goals rfl
  ·obtain rfl:i=l.length:=by omega
   rw[List.drop_length];repeat' first|simp only[go_sem,seval,hlm]|refine sB ?_|(first|apply pX|apply bX)<;>intro hc|refine⟨oD,?_⟩|exact oD|fail
   all_goals simp[idxF]
theorem ContainsFuncV_ok (l:List Bytes) (f:FuncId) (p:Bytes→Bool) (hl:l.length<4611686018427387904) (h: ∀x,EvP Tryz.prog f [vpv x] (.b (p x))):EvP Tryz.prog 340 [.sl (l.map vpv), .fn (.func f)] (.b (l.any p)):=by
 have hi:=IndexFuncV_ok l f p hl h;have e:decide (idxF p 0 l≥0)=l.any p:=by
  rw[Bool.eq_iff_iff,decide_eq_true_iff];exact idxF_neg
 refine eW Tryz.call340 Tryz.func340 ?_;repeat' first|simp only[go_sem,seval,e]|refine cP hi ?_|refine sB ?_|(first|apply pX|apply bX)<;>intro hc|refine⟨oD,?_⟩|exact oD|fail
end Go.Proofs.YtmledjfbgjnknaaGreatDoor
namespace Go.Proofs.YtmledjfbgjnknaaGreatDoor
open Go Go.Dom Go.Num
set_option maxRecDepth 100000
set_option maxHeartbeats 16000000
theorem lform_ok {s:Stm} (hs:StOK s):EvP Tryz.prog 336 [s.pv] (E 0):=by
 obtain⟨gs,vs,es⟩:=s;obtain⟨hg,hv,hq,ng,nv,ne⟩:=hs;simp only at hg hv hq ng nv ne;have l1:(gs.map gpv).length=gs.length:=List.length_map ..;have l2:(vs.map vpv).length=vs.length:=List.length_map ..;have l3:(es.map Eqn.pv).length=es.length:=List.length_map ..;unfold Stm.pv;simp only;refine eW Tryz.call336 Tryz.func336 ?_;repeat' first|simp only[go_sem,seval,l1]|refine sB ?_|(first|apply pX|apply bX)<;>intro hc|refine⟨oD,?_⟩|exact oD|fail
 refine loop_run (α:=Nat) (fun i=>gs.length-i) (fun i=>⟨[(1, .p 1000 0 0),(12, .v (.sl (gs.map gpv))),(13,E' gs.length),(14,E' i)],[(1000,⟨0,[.v (.sl (gs.map gpv)), .v (.sl (vs.map vpv)), .v (.sl (es.map Eqn.pv))],false,none⟩)],_⟩) (fun i=>i≤gs.length) 0 (fun _=>Nat.le_refl _) (Nat.zero_le _) ?_ ?_
 ·exact lE
 ·intro i hi R hR
  by_cases hlt:i<gs.length
  ·have e1:=getD_map gpv gs d0G hlt;have k:=hg _ (mem_getD d0G hlt);have hgo:=hR (i+1) (by omega) (by omega)
   obtain⟨x,hx⟩: ∃x,x=gs.getD i d0G:=⟨_,rfl⟩;rw[←hx]at e1 k;obtain⟨m,o⟩:=x;obtain⟨vm,vo,-⟩:=gE_m k.1;have v1:=natValid m;have v2:=natValid o;rw[vm]at v1;rw[vo]at v2;clear hR hx k vm vo;simp only[gpv]at e1;repeat' first|simp only[go_sem,seval,l1,e1]|refine cP v1 ?_|refine cP v2 ?_|refine sB ?_|(first|apply pX|apply bX)<;>intro hc|refine⟨oD,?_⟩|exact oD|fail
   refine hgo _ ?_;exact lE
  ·obtain rfl:i=gs.length:=by omega
   repeat' first|simp only[go_sem,seval,l1,l2]|refine sB ?_|(first|apply pX|apply bX)<;>intro hc|refine⟨oD,?_⟩|exact oD|fail
   refine loop_run (α:=Nat) (fun i=>vs.length-i) (fun i=>⟨[(1, .p 1000 0 0),(30, .v (.sl (vs.map vpv))),(31,E' vs.length),(32,E' i)],[(1000,⟨0,[.v (.sl (gs.map gpv)), .v (.sl (vs.map vpv)), .v (.sl (es.map Eqn.pv))],false,none⟩)],_⟩) (fun i=>i≤vs.length) 0 (fun _=>Nat.le_refl _) (Nat.zero_le _) ?_ ?_
   ·exact lE
   ·intro i hi R hR
    by_cases hlt:i<vs.length
    ·have e1:=getD_map vpv vs [] hlt;have k:=hv _ (mem_getD [] hlt);have hgo:=hR (i+1) (by omega) (by omega)
     obtain⟨x,hx⟩: ∃x,x=vs.getD i []:=⟨_,rfl⟩;rw[←hx]at e1 k;have v1:=natValid x;rw[k.1]at v1;clear hR hx k;simp only[vpv]at e1;repeat' first|simp only[go_sem,seval,l2,e1]|refine cP v1 ?_|refine sB ?_|(first|apply pX|apply bX)<;>intro hc|refine⟨oD,?_⟩|exact oD|fail
     refine hgo _ ?_;exact lE
    ·obtain rfl:i=vs.length:=by omega
     repeat' first|simp only[go_sem,seval,l2,l3]|refine sB ?_|(first|apply pX|apply bX)<;>intro hc|refine⟨oD,?_⟩|exact oD|fail
     refine loop_run (α:=Nat) (fun i=>es.length-i) (fun i=>⟨[(1, .p 1000 0 0),(42, .v (.sl (es.map Eqn.pv))),(43,E' es.length),(44,E' i)],[(1000,⟨0,[.v (.sl (gs.map gpv)), .v (.sl (vs.map vpv)), .v (.sl (es.map Eqn.pv))],false,none⟩)],_⟩) (fun i=>i≤es.length) 0 (fun _=>Nat.le_refl _) (Nat.zero_le _) ?_ ?_
     ·exact lE
     ·intro i hi R hR
      by_cases hlt:i<es.length
      ·have e1:=getD_map Eqn.pv es d0Q hlt;obtain⟨q1,q2,q3,q4,q5⟩:=hq _ (mem_getD d0Q hlt);have hgo:=hR (i+1) (by omega) (by omega)
       obtain⟨x,hx⟩: ∃x,x=es.getD i d0Q:=⟨_,rfl⟩;rw[←hx]at e1 q1 q2 q3 q4 q5;obtain⟨gr,tg,ts⟩:=x;simp only at q1 q2 q3 q4 q5;have hgE:=(hg _ (mem_getD d0G (show gr.toNat<gs.length by omega))).1
       have v1:=natValid tg;rw[gHas_valid hgE q3]at v1;have l4:(ts.map Trm.pv).length=ts.length:=List.length_map ..;simp only[Eqn.pv]at e1;clear hR hx q3;have hd1:decide (gr<0)=false:=decide_eq_false (by omega)
       have hd2:decide (gr≥(gs.length:Int))=false:=decide_eq_false (by omega)
       repeat' first|simp only[go_sem,seval,l1,l3,l4,e1,hd1,hd2]|refine cP v1 ?_|refine sB ?_|(first|apply pX|apply bX)<;>intro hc|refine⟨oD,?_⟩|exact oD|fail
       refine loop_run (α:=Nat) (fun i=>ts.length-i) (fun j=>⟨[(1, .p 1000 0 0),(42, .v (.sl (es.map Eqn.pv))),(43,E' es.length),(44,E' i),(66, .v (.sl (ts.map Trm.pv))),(67,E' ts.length),(68,E' j)],[(1000,⟨0,[.v (.sl (gs.map gpv)), .v (.sl (vs.map vpv)), .v (.sl (es.map Eqn.pv))],false,none⟩)],_⟩) (fun i=>i≤ts.length) 0 (fun _=>Nat.le_refl _) (Nat.zero_le _) ?_ ?_
       ·exact lE
       ·intro j hj R' hR'
        by_cases hjt:j<ts.length
        ·have e2:=getD_map Trm.pv ts d0T hjt;obtain⟨t1,t2,t3,t4⟩:=q5 _ (mem_getD d0T hjt);have hgo':=hR' (j+1) (by omega) (by omega)
         obtain⟨y,hy⟩: ∃y,y=ts.getD j d0T:=⟨_,rfl⟩;rw[←hy]at e2 t1 t2 t3 t4;obtain⟨b,v,n,a⟩:=y;simp only at t1 t2 t3 t4;have v2:=natValid b;rw[gHas_valid hgE t3]at v2;have v3:=iValid_ok n a;rw[show(validN a&& !(n&&a==[]))=true from t4]at v3
         simp only[Trm.pv]at e2;clear hR' hy t3 t4 q5;have hd3:decide (v<0)=false:=decide_eq_false (by omega)
         have hd4:decide (v≥(vs.length:Int))=false:=decide_eq_false (by omega)
         repeat' first|simp only[go_sem,seval,l2,l4,e2,hd3,hd4]|refine cP v2 ?_|refine cP v3 ?_|refine sB ?_|(first|apply pX|apply bX)<;>intro hc|refine⟨oD,?_⟩|exact oD|fail
         refine hgo' _ ?_;exact lE
        ·obtain rfl:j=ts.length:=by omega
         repeat' first|simp only[go_sem,seval,l3,l4]|refine sB ?_|(first|apply pX|apply bX)<;>intro hc|refine⟨oD,?_⟩|exact oD|fail
         refine hgo _ ?_;exact lE
      ·obtain rfl:i=es.length:=by omega
       repeat' first|simp only[go_sem,seval,l3]|refine sB ?_|(first|apply pX|apply bX)<;>intro hc|refine⟨oD,?_⟩|exact oD|fail
theorem lsz1_ok (q:Eqn):EvP Tryz.prog 412 [q.pv] (.b (decide (64<q.terms.length))):=by
 obtain⟨g,t,l⟩:=q;have l4:(l.map Trm.pv).length=l.length:=List.length_map ..;have hd:decide ((l.length:Int)>64)=decide (64<l.length):=by rw[decide_eq_decide];omega
 unfold Eqn.pv;refine eW Tryz.call412 Tryz.func412 ?_;repeat' first|simp only[go_sem,seval,l4,hd]|refine sB ?_|(first|apply pX|apply bX)<;>intro hc|refine⟨oD,?_⟩|exact oD|fail
theorem lsizes_ok {s:Stm} (hs:StOK s):EvP Tryz.prog 337 [s.pv] (E 0):=by
 have hq:=hs.q;have h1:=ContainsFuncQ_ok s.eqs _ _ (by have:=hs.ne;omega) lsz1_ok
 have h2:(s.eqs.any fun q=>decide (64<q.terms.length))=false:=by
  rw[Bool.eq_false_iff];intro g;obtain⟨q,h3,h4⟩:=List.any_eq_true.1 g;have:=(hq q h3).2.2.2.1;simp at h4;omega
 rw[h2]at h1;obtain⟨gs,vs,es⟩:=s;have ng:=hs.ng;have nv:=hs.nv;have ne:=hs.ne;simp only at ng nv ne h1;have l1:(gs.map gpv).length=gs.length:=List.length_map ..;have l2:(vs.map vpv).length=vs.length:=List.length_map ..;have l3:(es.map Eqn.pv).length=es.length:=List.length_map ..;clear hs h2 hq;unfold Stm.pv;simp only;refine eW Tryz.call337 Tryz.func337 ?_;repeat' first|simp only[go_sem,seval,l1,l2,l3]|refine cP h1 ?_|refine sB ?_|(first|apply pX|apply bX)<;>intro hc|refine⟨oD,?_⟩|exact oD|fail
theorem lel1_ok {m:Bytes} (lm:m.length≤8) {o:Bytes} (lo:o.length≤8) (t:Trm):EvP Tryz.prog 414 [t.pv, .pt (gpv (m,o)) 0] (.b (!gIn m o t.base)):=by
 obtain⟨b,v,n,a⟩:=t;have h:=gIn_ok lm lo b;simp only[Trm.pv,gpv];generalize gIn m o b=z at*;refine eW Tryz.call414 Tryz.func414 ?_;repeat' first|simp only[go_sem,seval]|refine cP h ?_|refine sB ?_|(first|apply pX|apply bX)<;>intro hc|refine⟨oD,?_⟩|exact oD|fail
theorem lelements_ok {s:Stm} (hs:StOK s):EvP Tryz.prog 338 [s.pv] (E 0):=by
 obtain⟨gs,vs,es⟩:=s;obtain⟨hg,hv,hq,ng,nv,ne⟩:=hs;simp only at hg hv hq ng nv ne;have l1:(gs.map gpv).length=gs.length:=List.length_map ..;have l3:(es.map Eqn.pv).length=es.length:=List.length_map ..;unfold Stm.pv;simp only;refine eW Tryz.call338 Tryz.func338 ?_;repeat' first|simp only[go_sem,seval,l1]|refine sB ?_|(first|apply pX|apply bX)<;>intro hc|refine⟨oD,?_⟩|exact oD|fail
 refine loop_run (α:=Nat) (fun i=>gs.length-i) (fun i=>⟨[(1, .p 1000 0 0),(9, .v (.sl (gs.map gpv))),(10,E' gs.length),(11,E' i)],[(1000,⟨0,[.v (.sl (gs.map gpv)), .v (.sl (vs.map vpv)), .v (.sl (es.map Eqn.pv))],false,none⟩)],_⟩) (fun i=>i≤gs.length) 0 (fun _=>Nat.le_refl _) (Nat.zero_le _) ?_ ?_
 ·exact lE
 ·intro i hi R hR
  by_cases hlt:i<gs.length
  ·have e1:=getD_map gpv gs d0G hlt;have k:=hg _ (mem_getD d0G hlt);have hgo:=hR (i+1) (by omega) (by omega)
   obtain⟨x,hx⟩: ∃x,x=gs.getD i d0G:=⟨_,rfl⟩;rw[←hx]at e1 k;obtain⟨m,o⟩:=x;have v1:=gCheck_ok k.2.1 k.2.2;rw[k.1]at v1;clear hR hx k;simp only[gpv]at e1;repeat' first|simp only[go_sem,seval,l1,e1]|refine cP v1 ?_|refine sB ?_|(first|apply pX|apply bX)<;>intro hc|refine⟨oD,?_⟩|exact oD|fail
   refine hgo _ ?_;exact lE
  ·obtain rfl:i=gs.length:=by omega
   repeat' first|simp only[go_sem,seval,l1,l3]|refine sB ?_|(first|apply pX|apply bX)<;>intro hc|refine⟨oD,?_⟩|exact oD|fail
   refine loop_run (α:=Nat) (fun i=>es.length-i) (fun i=>⟨[(1, .p 1000 0 0),(20, .v (.sl (es.map Eqn.pv))),(21,E' es.length),(22,E' i)],[(1000,⟨0,[.v (.sl (gs.map gpv)), .v (.sl (vs.map vpv)), .v (.sl (es.map Eqn.pv))],false,none⟩)],_⟩) (fun i=>i≤es.length) 0 (fun _=>Nat.le_refl _) (Nat.zero_le _) ?_ ?_
   ·exact lE
   ·intro i hi R hR
    by_cases hlt:i<es.length
    ·have e1:=getD_map Eqn.pv es d0Q hlt;obtain⟨q1,q2,q3,q4,q5⟩:=hq _ (mem_getD d0Q hlt);have hgo:=hR (i+1) (by omega) (by omega)
     obtain⟨x,hx⟩: ∃x,x=es.getD i d0Q:=⟨_,rfl⟩;rw[←hx]at e1 q1 q2 q3 q4 q5;obtain⟨gr,tg,ts⟩:=x;simp only at q1 q2 q3 q4 q5;have hgl:gr.toNat<gs.length:=by omega
     have kg:=hg _ (mem_getD d0G hgl);have e3:=getD_map gpv gs d0G hgl;obtain⟨z,hz⟩: ∃z,z=gs.getD gr.toNat d0G:=⟨_,rfl⟩;rw[←hz]at q3 q5 kg e3;obtain⟨m,o⟩:=z;simp only at q3 q5 kg;have v1:=gIn_ok kg.2.1 kg.2.2 tg;have g1:gIn m o tg=true:=by simp[gIn,kg.1,q3]
     rw[g1]at v1;have v2:=ContainsFuncT_ok ts _ _ _ (by omega) (lel1_ok kg.2.1 kg.2.2)
     have g2:(ts.any fun t=> !gIn m o t.base)=false:=by
      rw[Bool.eq_false_iff];intro g;obtain⟨t,h3,h4⟩:=List.any_eq_true.1 g;have:=(q5 t h3).2.2.1;simp[gIn,kg.1,this]at h4
     rw[g2]at v2;simp only[gpv]at e3 v2;simp only[Eqn.pv]at e1;clear hR hx hz q3 q5 kg g1 g2;repeat' first|simp only[go_sem,seval,l1,l3,e1,e3,viewN]|refine cP v1 ?_|refine cV v2 ?_|refine sB ?_|(first|apply pX|apply bX)<;>intro hc|refine⟨oD,?_⟩|exact oD|fail
     refine hgo _ ?_;exact lE
    ·obtain rfl:i=es.length:=by omega
     repeat' first|simp only[go_sem,seval,l3]|refine sB ?_|(first|apply pX|apply bX)<;>intro hc|refine⟨oD,?_⟩|exact oD|fail
theorem lk1_ok (b:Bytes):EvP Tryz.prog 415 [vpv b] (.b (b==[])):=by
 unfold vpv;refine eW Tryz.call415 Tryz.func415 ?_;repeat' first|simp only[go_sem,seval]|refine sB ?_|(first|apply pX|apply bX)<;>intro hc|refine⟨oD,?_⟩|exact oD|fail
theorem lkinds_ok {s:Stm} (hs:StOK s):EvP Tryz.prog 339 [s.pv] (E 0):=by
 have hv:=hs.v;have h1:=ContainsFuncV_ok s.vars _ _ (by have:=hs.nv;omega) lk1_ok
 have h2:(s.vars.any fun b=>b==[])=false:=by
  rw[Bool.eq_false_iff];intro g;obtain⟨b,h3,h4⟩:=List.any_eq_true.1 g;exact(hv b h3).2.1 (by simpa using h4)
 rw[h2]at h1;obtain⟨gs,vs,es⟩:=s;simp only at h1;clear hs h2 hv;unfold Stm.pv;simp only;refine eW Tryz.call339 Tryz.func339 ?_;repeat' first|simp only[go_sem,seval]|refine cP h1 ?_|refine sB ?_|(first|apply pX|apply bX)<;>intro hc|refine⟨oD,?_⟩|exact oD|fail
theorem lCheck_ok {s:Stm} (hs:StOK s):EvP Tryz.prog 219 [s.pv] (E 0):=by
 have h1:=lform_ok hs;have h2:=lsizes_ok hs;have h3:=lelements_ok hs;have h4:=lkinds_ok hs;clear hs;unfold Stm.pv at*;refine eW Tryz.call219 Tryz.func219 ?_;repeat' first|simp only[go_sem,seval]|refine cP h1 ?_|refine cP h2 ?_|refine cP h3 ?_|refine cP h4 ?_|(refine loop_unroll' ?_)|refine sB ?_|(first|apply pX|apply bX)<;>intro hc|refine⟨oD,?_⟩|exact oD|fail
end Go.Proofs.YtmledjfbgjnknaaGreatDoor
