/-
  Part of the proof, part Y27. Own work.
-/
import Derived.Test.YtmledjfbgjnknaaGreatDoorY26
set_option linter.all false
namespace Go.Proofs.YtmledjfbgjnknaaGreatDoor
open Go Go.Dom Go.Num
set_option maxRecDepth 100000
set_option maxHeartbeats 4000000
abbrev G (m o:Bytes):PV:= .agg [.s m, .s o]
theorem N_of {a:Bytes} (h:validN a=true):N (num a)= .s a:=congrArg PV.s (bts_of h)
def goodB (m o:Bytes):Bool:=validN m&&o==[]&&(num m).testBit 0&&decide (8<num m)
theorem Of8:EvP Tryz.prog 46 [.i .u64 8] (.s [8]):=Of_ok 8 (by decide)
theorem Of1:EvP Tryz.prog 46 [.i .u64 1] (.s [1]):=Of_ok 1 (by decide)
theorem Of2:EvP Tryz.prog 46 [.i .u64 2] (.s [2]):=Of_ok 2 (by decide)
theorem good_ok (m o:Bytes):EvP Tryz.prog 87 [G m o] (.b (goodB m o)):=by
 have hv:=natValid m
 by_cases h:validN m=true
 ·have hb:=Bit_ok h 0 (by decide)
  have hcm:=Cmp_ok m [8];rw[h]at hv;rw[h,show validN [8]=true from rfl,show num [8]=8 from rfl]at hcm
  have he:cmpN (num m) 8>0↔8<num m:=by unfold cmpN;split<;>(try split)<;>omega
  refine eW Tryz.call87 Tryz.func87 ?_;repeat' first|simp only[go_sem,seval]|refine cP hv ?_|refine cP hb ?_|refine cP Of8 ?_|refine cP hcm ?_|refine sB ?_|(first|apply pX|apply bX)<;>intro hc|refine⟨oD,?_⟩|exact oD|fail
  all_goals simp_all[goodB]
 ·have h:validN m=false:=by simpa using h
  rw[h]at hv;have e:goodB m o=false:=by simp[goodB,h]
  rw[e];refine eW Tryz.call87 Tryz.func87 ?_;repeat' first|simp only[go_sem,seval]|refine cP hv ?_|refine sB ?_|(first|apply pX|apply bX)<;>intro hc|refine⟨oD,?_⟩|exact oD|fail
theorem rone_ok:EvP Tryz.prog 95 [] (N 1):=by
 refine eW Tryz.call95 Tryz.func95 ?_;repeat' first|simp only[go_sem,seval]|refine cP Of1 ?_|refine sB ?_|(first|apply pX|apply bX)<;>intro hc|refine⟨oD,?_⟩|exact oD|fail
 all_goals rfl
theorem primes_ok (p q:Bytes):EvP Tryz.prog 93 [G p q] (G p q):=by
 refine eW Tryz.call93 Tryz.func93 ?_;repeat' first|simp only[go_sem,seval]|refine sB ?_|(first|apply pX|apply bX)<;>intro hc|refine⟨oD,?_⟩|exact oD|fail
def rHas (m o x:Bytes):Bool:=goodB m o&&validN x&& !(x==[])&&decide (num x<num m)&&decide (Nat.gcd (num x) (num m)=1)
theorem cmpGe (a b:Nat):(cmpN a b≥0)=(b≤a):=by
 unfold cmpN;rw[eq_iff_iff];split<;>(try split)<;>omega
theorem rHas_ok {m:Bytes} (lm:m.length≤8) (o x:Bytes):EvP Tryz.prog 82 [G m o, .s x] (.b (rHas m o x)):=by
 have hg:=good_ok m o;have hv:=natValid x
 by_cases h:goodB m o=true∧validN x=true∧x≠[]∧num x<num m
 ·obtain⟨h1,h2,h3,h4⟩:=h;have hm:validN m=true:=by simp[goodB]at h1;exact h1.1.1.1
  have hcm:=Cmp_ok x m;rw[h2,hm]at hcm;have hnm:=num8 lm;have hgc:=GcdN (a:=num x) (b:=num m) (by omega) hnm
  rw[N_of h2,N_of hm]at hgc;rw[h1]at hg;rw[h2]at hv;have hx:(x==([]:Bytes))=false:=by simpa using h3
  have hlt: ¬cmpN (num x) (num m)≥0:=by rw[cmpGe];omega
  have e:rHas m o x=decide (Nat.gcd (num x) (num m)=1):=by simp[rHas,h1,h2,h4];intro;exact h3
  rw[e];refine eW Tryz.call82 Tryz.func82 ?_;repeat' first|simp only[go_sem,seval,hx,btsEq]|refine cP hg ?_|refine cP hv ?_|refine cP hcm ?_|refine cP hgc ?_|refine cP rone_ok ?_|refine sB ?_|(first|apply pX|apply bX)<;>intro hc|refine⟨oD,?_⟩|exact oD|fail
  all_goals skip
 ·have e:rHas m o x=false:=by
   rw[Bool.eq_false_iff];intro g;simp[rHas]at g;exact h ⟨g.1.1.1.1,g.1.1.1.2,g.1.1.2,g.1.2⟩
  have hcm:=Cmp_ok x m;rw[e]
  by_cases h1:goodB m o=true
  ·have hm:validN m=true:=by simp[goodB]at h1;exact h1.1.1.1
   rw[h1]at hg
   by_cases h2:validN x=true
   ·rw[h2]at hv;rw[h2,hm]at hcm
    by_cases h3:x=[]
    ·subst h3;refine eW Tryz.call82 Tryz.func82 ?_;repeat' first|simp only[go_sem,seval,nn]|refine cP hg ?_|refine cP hv ?_|refine sB ?_|(first|apply pX|apply bX)<;>intro hc|refine⟨oD,?_⟩|exact oD|fail
    ·have hx:(x==([]:Bytes))=false:=by simpa using h3
     have hge:cmpN (num x) (num m)≥0:=by rw[cmpGe];exact Nat.le_of_not_lt fun g=>h ⟨h1,h2,h3,g⟩
     refine eW Tryz.call82 Tryz.func82 ?_;repeat' first|simp only[go_sem,seval,hx]|refine cP hg ?_|refine cP hv ?_|refine cP hcm ?_|refine sB ?_|(first|apply pX|apply bX)<;>intro hc|refine⟨oD,?_⟩|exact oD|fail
     all_goals skip
   ·have h2:validN x=false:=by simpa using h2
    rw[h2]at hv;refine eW Tryz.call82 Tryz.func82 ?_;repeat' first|simp only[go_sem,seval]|refine cP hg ?_|refine cP hv ?_|refine sB ?_|(first|apply pX|apply bX)<;>intro hc|refine⟨oD,?_⟩|exact oD|fail
  ·have h1:goodB m o=false:=by simpa using h1
   rw[h1]at hg;refine eW Tryz.call82 Tryz.func82 ?_;repeat' first|simp only[go_sem,seval]|refine cP hg ?_|refine sB ?_|(first|apply pX|apply bX)<;>intro hc|refine⟨oD,?_⟩|exact oD|fail
def safeP (a:Bytes):Bool:=validN a&&decide (a.length≤8)&&isSafe (num a)
def safeE (p q:Bytes):Int:=if primeE p≠0 then primeE p else if primeE q≠0 then primeE q else if safeP p&&safeP q&& !(p==q)then 0 else 12
theorem safe_ok (p q:Bytes):EvP Tryz.prog 88 [G p q] (E (safeE p q)):=by
 have h1:EvP Tryz.prog 205 [.s p] (.tup [.b (safeP p),E (primeE p)]):=primeSafe p;have h2:EvP Tryz.prog 205 [.s q] (.tup [.b (safeP q),E (primeE q)]):=primeSafe q;generalize hp:safeP p=sp at*;generalize hq:safeP q=sq at*;unfold safeE;rw[hp,hq];generalize primeE p=ep at*;generalize primeE q=eq at*;refine eW Tryz.call88 Tryz.func88 ?_;repeat' first|simp only[go_sem,seval]|refine cP (primes_ok p q) ?_|refine cP h1 ?_|refine cP h2 ?_|(refine loop_unroll' ?_)|refine sB ?_|(first|apply pX|apply bX)<;>intro hc|refine⟨oD,?_⟩|exact oD|fail
 all_goals simp_all
def rCheckE (m o p q:Bytes):Int:=if !(validN m&&validN o&&validN p&&validN q)then 3 else if !goodB m o then 13 else if(mulB p q).2≠0∨(mulB p q).1≠m then 1 else safeE p q
theorem rCheck_ok (m o p q:Bytes):EvP Tryz.prog 34 [G m o,G p q] (E (rCheckE m o p q)):=by
 have v1:=natValid m;have v2:=natValid o;have v3:=natValid p;have v4:=natValid q;have hg:=good_ok m o;have hm:=Mul_ok p q;have hs:=safe_ok p q;unfold rCheckE;generalize validN m=b1 at*;generalize validN o=b2 at*;generalize validN p=b3 at*;generalize validN q=b4 at*;generalize goodB m o=b5 at*;generalize safeE p q=se at*;generalize mulB p q=mb at*;obtain⟨mb1,mb2⟩:=mb;simp only at hm;refine eW Tryz.call34 Tryz.func34 ?_;repeat' first|simp only[go_sem,seval]|refine cP v1 ?_|refine cP v2 ?_|refine cP v3 ?_|refine cP v4 ?_|refine cP hg ?_|refine cP hm ?_|refine cP hs ?_|refine sB ?_|(first|apply pX|apply bX)<;>intro hc|refine⟨oD,?_⟩|exact oD|fail
 all_goals simp_all
def elE (m o p q x:Bytes):Int:=if !validN x then 3 else if rCheckE m o p q≠0 then rCheckE m o p q else if !rHas m o x then 13 else 0
theorem element_ok {m:Bytes} (lm:m.length≤8) (o p q x:Bytes):EvP Tryz.prog 91 [G m o,G p q, .s x] (E (elE m o p q x)):=by
 have v1:=natValid x;have v2:=rCheck_ok m o p q;have v3:=rHas_ok lm o x;unfold elE;generalize validN x=b1 at*;generalize rCheckE m o p q=b2 at*;generalize rHas m o x=b3 at*;refine eW Tryz.call91 Tryz.func91 ?_;repeat' first|simp only[go_sem,seval]|refine cP v1 ?_|refine cP v2 ?_|refine cP v3 ?_|refine sB ?_|(first|apply pX|apply bX)<;>intro hc|refine⟨oD,?_⟩|exact oD|fail
 all_goals simp_all
structure Trap (m o p q:Bytes):Prop where
 vm:validN m=true
 vp:validN p=true
 vq:validN q=true
 lp:p.length≤8
 lq:q.length≤8
 o:o=[]
 mul:num m=num p*num q
 odd:num m%2=1
 sp:isSafe (num p)=true
 sq:isSafe (num q)=true
 ne:num p≠num q
theorem rCheck0 {m o p q:Bytes} (h:rCheckE m o p q=0):Trap m o p q:=by
 unfold rCheckE at h
 split at h
 ·cases h
 ·rename_i h1;simp only[Bool.not_eq_true',Bool.not_eq_false,Bool.and_eq_true]at h1;obtain⟨⟨⟨v1,v2⟩,v3⟩,v4⟩:=h1
  split at h
  ·cases h
  ·rename_i h2;simp only[Bool.not_eq_true',Bool.not_eq_false]at h2
   split at h
   ·cases h
   ·rename_i h3;have h3a:(mulB p q).2=0:=Classical.not_not.1 fun g=>h3 (.inl g)
    have h3b:(mulB p q).1=m:=Classical.not_not.1 fun g=>h3 (.inr g)
    unfold safeE at h
    split at h
    ·contradiction
    ·split at h
     ·contradiction
     ·split at h
      ·rename_i h4;simp only[safeP,Bool.and_eq_true,decide_eq_true_eq,Bool.not_eq_true',beq_eq_false_iff_ne]at h4;obtain⟨⟨⟨⟨-,lp⟩,sp⟩,⟨-,lq⟩,sq⟩,ne⟩:=h4;simp only[goodB,Bool.and_eq_true,decide_eq_true_eq,beq_iff_eq]at h2;obtain⟨⟨⟨-,ho⟩,hb⟩,-⟩:=h2;unfold mulB at h3a h3b;rw[v3,v4]at h3a h3b;simp only[Bool.and_self,if_true]at h3a h3b
       split at h3a
       ·rename_i h5;rw[if_pos h5]at h3b;refine⟨v1,v3,v4,lp,lq,ho,?_,?_,sp,sq,fun e=>ne ?_⟩
        ·rw[←h3b,num_bts]
        ·rw[Nat.testBit_zero]at hb;simpa using hb
        ·rw[←bts_of v3,e,bts_of v4]
       ·cases h3a
      ·cases h
theorem Trap.oddP {m o p q:Bytes} (t:Trap m o p q):num p%2=1∧num q%2=1:=by
 have h:=t.odd;rw[t.mul,Nat.mul_mod]at h;have h1:num p%2=0∨num p%2=1:=by omega
 have h2:num q%2=0∨num q%2=1:=by omega
 rcases h1 with e1|e1<;>rcases h2 with e2|e2<;>simp_all
def sqB (p q x:Bytes):Bool:=decide (jac (num x) (num p)=1)&&decide (jac (num x) (num q)=1)
theorem square_ok {m o p q x:Bytes} (t:Trap m o p q) (vx:validN x=true) (lx:x.length≤8):EvP Tryz.prog 92 [G p q, .s x] (.b (sqB p q x)):=by
 obtain⟨o1,o2⟩:=t.oddP;have j1:=JacobiN (num8 lx) (num8 t.lp) o1;have j2:=JacobiN (num8 lx) (num8 t.lq) o2;rw[N_of vx,N_of t.vp]at j1;rw[N_of vx,N_of t.vq]at j2;unfold sqB;generalize jac (num x) (num p)=a at*;generalize jac (num x) (num q)=b at*;refine eW Tryz.call92 Tryz.func92 ?_;repeat' first|simp only[go_sem,seval]|refine cP (primes_ok p q) ?_|refine cP j1 ?_|refine cP j2 ?_|(refine loop_unroll' ?_)|refine sB ?_|(first|apply pX|apply bX)<;>intro hc|refine⟨oD,?_⟩|exact oD|fail
 all_goals simp_all
theorem el0 {m o p q x:Bytes} (h:elE m o p q x=0):validN x=true∧Trap m o p q∧rHas m o x=true:=by
 unfold elE at h
 split at h
 ·cases h
 ·rename_i h1
  split at h
  ·contradiction
  ·rename_i h2
   split at h
   ·cases h
   ·rename_i h3;exact⟨by simpa using h1,rCheck0 (by simpa using h2),by simpa using h3⟩
theorem has_len {m o x:Bytes} (lm:m.length≤8) (h:rHas m o x=true):x.length≤8:=by
 simp only[rHas,Bool.and_eq_true,decide_eq_true_eq]at h;obtain⟨⟨⟨⟨h1,h2⟩,h3⟩,h4⟩,h5⟩:=h;have:=num8 lm;rw[←bts_of h2];exact lN (by omega)
theorem IsSquare_ok {m:Bytes} (lm:m.length≤8) (o p q x:Bytes):EvP Tryz.prog 49 [G m o,G p q, .s x] (.tup [.b (decide (elE m o p q x=0)&&sqB p q x),E (elE m o p q x)]):=by
 have he:=element_ok lm o p q x
 by_cases h0:elE m o p q x=0
 ·obtain⟨vx,t,hh⟩:=el0 h0;have hs:=square_ok t vx (has_len lm hh);rw[h0]at he⊢;refine eW Tryz.call49 Tryz.func49 ?_;repeat' first|simp only[go_sem,seval]|refine cP he ?_|refine cP hs ?_|refine sB ?_|(first|apply pX|apply bX)<;>intro hc|refine⟨oD,?_⟩|exact oD|fail
  all_goals simp_all
 ·generalize elE m o p q x=e at*;refine eW Tryz.call49 Tryz.func49 ?_;repeat' first|simp only[go_sem,seval]|refine cP he ?_|refine sB ?_|(first|apply pX|apply bX)<;>intro hc|refine⟨oD,?_⟩|exact oD|fail
  all_goals simp_all
def genB (p q x:Bytes):Bool:=sqB p q x&&decide (num x%num p≠1)&&decide (num x%num q≠1)
theorem IsGenerator_ok {m:Bytes} (lm:m.length≤8) (o p q x:Bytes):EvP Tryz.prog 39 [G m o,G p q, .s x] (.tup [.b (decide (elE m o p q x=0)&&genB p q x),E (elE m o p q x)]):=by
 have he:=element_ok lm o p q x
 by_cases h0:elE m o p q x=0
 ·obtain⟨vx,t,hh⟩:=el0 h0;have lx:=has_len lm hh;have hs:=square_ok t vx lx;obtain⟨o1,o2⟩:=t.oddP;have d1:=DivModN (num8 lx) (num8 t.lp) (by omega)
  have d2:=DivModN (num8 lx) (num8 t.lq) (by omega)
  rw[N_of vx,N_of t.vp]at d1;rw[N_of vx,N_of t.vq]at d2;rw[h0]at he⊢;unfold genB;generalize sqB p q x=sb at*;refine eW Tryz.call39 Tryz.func39 ?_;repeat' first|simp only[go_sem,seval,btsEq]|refine cP he ?_|refine cP hs ?_|refine cP (primes_ok p q) ?_|refine cP rone_ok ?_|refine cP d1 ?_|refine cP d2 ?_|(refine loop_unroll' ?_)|refine sB ?_|(first|apply pX|apply bX)<;>intro hc|refine⟨oD,?_⟩|exact oD|fail
  all_goals simp_all
 ·generalize elE m o p q x=e at*;refine eW Tryz.call39 Tryz.func39 ?_;repeat' first|simp only[go_sem,seval]|refine cP he ?_|refine sB ?_|(first|apply pX|apply bX)<;>intro hc|refine⟨oD,?_⟩|exact oD|fail
  all_goals simp_all
theorem made_ok (n:Bool) (a:Bytes):EvP Tryz.prog 52 [.b n, .s a] (.agg [.b (n&& !(a==[])), .s a]):=by
 refine eW Tryz.call52 Tryz.func52 ?_;repeat' first|simp only[go_sem,seval]|refine sB ?_|(first|apply pX|apply bX)<;>intro hc|refine⟨oD,?_⟩|exact oD|fail
 all_goals simp_all
theorem iValid_ok (n:Bool) (a:Bytes):EvP Tryz.prog 109 [.agg [.b n, .s a]] (.b (validN a&& !(n&&a==[]))):=by
 have hv:=natValid a;refine eW Tryz.call109 Tryz.func109 ?_;repeat' first|simp only[go_sem,seval]|refine cP hv ?_|refine sB ?_|(first|apply pX|apply bX)<;>intro hc|refine⟨oD,?_⟩|exact oD|fail
 all_goals simp_all
theorem From_ok {a:Bytes} (h:validN a=true):EvP Tryz.prog 21 [.s a] (.agg [.b false, .s a]):=by
 have hv:=natValid a;rw[h]at hv;refine eW Tryz.call21 Tryz.func21 ?_;repeat' first|simp only[go_sem,seval]|refine cP hv ?_|refine cP (made_ok _ _) ?_|refine sB ?_|(first|apply pX|apply bX)<;>intro hc|refine⟨oD,?_⟩|exact oD|fail
 all_goals simp_all
theorem formed_ok (m o:Bytes):EvP Tryz.prog 196 [G m o] (.b (validN m&&validN o)):=by
 have v1:=natValid m;have v2:=natValid o;refine eW Tryz.call196 Tryz.func196 ?_;repeat' first|simp only[go_sem,seval]|refine cP v1 ?_|refine cP v2 ?_|refine sB ?_|(first|apply pX|apply bX)<;>intro hc|refine⟨oD,?_⟩|exact oD|fail
 all_goals simp_all
theorem SubN {a b:Nat} (ha:a<18446744073709551616) (hb:b<18446744073709551616):EvP Tryz.prog 104 [N a,N b] (.tup [if b≤a then N (a-b)else .s [],E (if b≤a then 0 else 2)]):=by
 have:=Sub_ok (bts a) (bts b);simp only[subB,vN ha,vN hb,Bool.and_self,if_true,num_bts]at this
 by_cases h:b≤a
 ·simp only[h,if_true]at this⊢;exact this
 ·simp only[h,if_false]at this⊢;exact this
theorem cofactor_ok {m o:Nat} (hm:m<18446744073709551616) (ho:o<18446744073709551616):EvP Tryz.prog 198 [G (bts m) (bts o)] (.tup [if m=0∨o=0 then .s []else N ((m-1)/o), .b (decide (m≠0)&&decide (o≠0)&&decide ((m-1)%o=0))]):=by
 have hs:=SubN hm (show 1<18446744073709551616 by decide)
 by_cases m0:m=0
 ·subst m0;simp only[show¬1≤0 by omega,if_false]at hs
  refine eW Tryz.call198 Tryz.func198 ?_;simp only[go_sem,seval,one_eq];repeat' first|simp only[go_sem,seval,one_eq]|refine cP hs ?_|refine sB ?_|(first|apply pX|apply bX)<;>intro hc|refine⟨oD,?_⟩|exact oD|fail
  all_goals simp_all
 ·rw[if_pos (by omega),if_pos (by omega)]at hs
  by_cases o0:o=0
  ·subst o0;refine eW Tryz.call198 Tryz.func198 ?_;simp only[go_sem,seval,one_eq];repeat' first|simp only[go_sem,seval,one_eq,nilT]|refine cP hs ?_|refine sB ?_|(first|apply pX|apply bX)<;>intro hc|refine⟨oD,?_⟩|exact oD|fail
   all_goals simp_all
  ·have hd:=DivModN (a:=m-1) (b:=o) (by omega) ho (by omega)
   have e:=nilF o0;have hz:(bts ((m-1)%o)==([]:Bytes))=decide ((m-1)%o=0):=by
    rw[Bool.eq_iff_iff];simp[bts_nil]
   refine eW Tryz.call198 Tryz.func198 ?_;simp only[go_sem,seval,one_eq];repeat' first|simp only[go_sem,seval,one_eq,e,hz]|refine cP hs ?_|refine cP hd ?_|refine sB ?_|(first|apply pX|apply bX)<;>intro hc|refine⟨oD,?_⟩|exact oD|fail
   all_goals simp_all
def pgE (m o:Bytes):Int:=if !(validN m&&validN o)then 3 else if 8<m.length then 5 else if !isMR (num m)then 12 else if 8<o.length then 13 else if !isMR (num o)then 12 else if(num m-1)%num o=0 then 0 else 13
theorem pgCheck_ok (m o:Bytes):EvP Tryz.prog 83 [G m o] (E (pgE m o)):=by
 have hf:=formed_ok m o;have hm:=primeIsOk m;have ho:=primeIsOk o
 by_cases hv:validN m=true∧validN o=true
 case neg=>
  have e:(validN m&&validN o)=false:=by rw[Bool.eq_false_iff];intro g;simp at g;exact hv g
  rw[e]at hf;have e2:pgE m o=3:=by simp[pgE,e]
  rw[e2];refine eW Tryz.call83 Tryz.func83 ?_;repeat' first|simp only[go_sem,seval]|refine cP hf ?_|refine sB ?_|(first|apply pX|apply bX)<;>intro hc|refine⟨oD,?_⟩|exact oD|fail
 obtain⟨v1,v2⟩:=hv;rw[v1,v2]at hf;rw[v1]at hm;rw[v2]at ho
 by_cases l1:m.length≤8
 case neg=>
  have e2:pgE m o=5:=by simp[pgE,v1,v2];intro g;omega
  rw[e2];refine eW Tryz.call83 Tryz.func83 ?_;repeat' first|simp only[go_sem,seval]|refine cP hf ?_|refine sB ?_|(first|apply pX|apply bX)<;>intro hc|refine⟨oD,?_⟩|exact oD|fail
 have em:primeE m=0:=by simp[primeE,v1,l1]
 rw[decide_eq_true l1,em]at hm
 by_cases l2:o.length≤8
 case neg=>
  by_cases p1:isMR (num m)=true
  ·have e2:pgE m o=13:=by simp[pgE,v1,v2,p1,show¬8<m.length by omega,show 8<o.length by omega]
   rw[p1]at hm;rw[e2];refine eW Tryz.call83 Tryz.func83 ?_;repeat' first|simp only[go_sem,seval]|refine cP hf ?_|refine cP hm ?_|refine sB ?_|(first|apply pX|apply bX)<;>intro hc|refine⟨oD,?_⟩|exact oD|fail
  ·have p1:isMR (num m)=false:=by simpa using p1
   have e2:pgE m o=12:=by simp[pgE,v1,v2,p1,l1]
   rw[p1]at hm;rw[e2];refine eW Tryz.call83 Tryz.func83 ?_;repeat' first|simp only[go_sem,seval]|refine cP hf ?_|refine cP hm ?_|refine sB ?_|(first|apply pX|apply bX)<;>intro hc|refine⟨oD,?_⟩|exact oD|fail
 have eo:primeE o=0:=by simp[primeE,v2,l2]
 rw[decide_eq_true l2,eo]at ho;have hc:=cofactor_ok (num8 l1) (num8 l2);rw[bts_of v1,bts_of v2]at hc;have hcm:=hc;clear hc;unfold pgE;rw[v1,v2]
 by_cases p1:isMR (num m)=true
 ·by_cases p2:isMR (num o)=true
  ·have h2:2≤num m:=by rcases Nat.lt_or_ge (num m) 2 with g|g;simp[isMR,g]at p1;exact g
   have h3:2≤num o:=by rcases Nat.lt_or_ge (num o) 2 with g|g;simp[isMR,g]at p2;exact g
   rw[p1]at hm;rw[p2]at ho;rw[if_neg (by omega),decide_eq_true (show num m≠0 by omega),decide_eq_true (show num o≠0 by omega)]at hcm
   rw[p1,p2];generalize (num m-1)%num o=z at*;refine eW Tryz.call83 Tryz.func83 ?_;repeat' first|simp only[go_sem,seval]|refine cP hf ?_|refine cP hm ?_|refine cP ho ?_|refine cP hcm ?_|refine sB ?_|(first|apply pX|apply bX)<;>intro hc|refine⟨oD,?_⟩|exact oD|fail
   all_goals simp_all
   all_goals omega
  ·have p2:isMR (num o)=false:=by simpa using p2
   rw[p1]at hm;rw[p2]at ho;rw[p1,p2];refine eW Tryz.call83 Tryz.func83 ?_;repeat' first|simp only[go_sem,seval]|refine cP hf ?_|refine cP hm ?_|refine cP ho ?_|refine sB ?_|(first|apply pX|apply bX)<;>intro hc|refine⟨oD,?_⟩|exact oD|fail
   all_goals simp_all
   all_goals omega
 ·have p1:isMR (num m)=false:=by simpa using p1
  rw[p1]at hm;rw[p1];refine eW Tryz.call83 Tryz.func83 ?_;repeat' first|simp only[go_sem,seval]|refine cP hf ?_|refine cP hm ?_|refine sB ?_|(first|apply pX|apply bX)<;>intro hc|refine⟨oD,?_⟩|exact oD|fail
  all_goals simp_all
  all_goals omega
def pgHas (m o x:Bytes):Bool:=validN m&&validN o&&validN x&& !(o==[])&& !(x==[])&&decide (num x<num m)&&decide (num x^num o%num m=1%num m)
theorem pgHas_ok {m:Bytes} (lm:m.length≤8) (o x:Bytes):EvP Tryz.prog 199 [G m o, .s x] (.b (pgHas m o x)):=by
 have hf:=formed_ok m o;have vx:=natValid x;have hcm:=Cmp_ok x m
 by_cases h:validN m=true∧validN o=true∧validN x=true∧o≠[]∧x≠[]∧num x<num m
 ·obtain⟨v1,v2,v3,h4,h5,h6⟩:=h;have e4:(o==([]:Bytes))=false:=by simpa using h4
  have e5:(x==([]:Bytes))=false:=by simpa using h5
  have hn:=num8 lm;have hE:=ExpN (a:=num x) (m:=num m) (e:=o) (by omega) v2 hn (by omega)
  have hE0:=ExpN (a:=num x) (m:=num m) (e:=[]) (by omega) rfl hn (by omega)
  rw[N_of v3,N_of v1]at hE hE0;rw[show num ([]:Bytes)=0 from rfl,Nat.pow_zero]at hE0
  rw[v1,v2]at hf;rw[v3]at vx;rw[v3,v1]at hcm;have hlt: ¬cmpN (num x) (num m)≥0:=by rw[cmpGe];omega
  have e:pgHas m o x=decide (num x^num o%num m=1%num m):=by simp[pgHas,v1,v2,v3,e4,e5,h6]
  rw[e];generalize num x^num o%num m=z1 at*;generalize 1%num m=z2 at*;refine eW Tryz.call199 Tryz.func199 ?_;repeat' first|simp only[go_sem,seval,e4,e5,btsEq]|refine cP hf ?_|refine cP vx ?_|refine cP hcm ?_|refine cP hE ?_|refine cP hE0 ?_|refine sB ?_|(first|apply pX|apply bX)<;>intro hc|refine⟨oD,?_⟩|exact oD|fail
  all_goals simp_all
 ·have e:pgHas m o x=false:=by
   rw[Bool.eq_false_iff];intro g;simp[pgHas]at g;exact h ⟨g.1.1.1.1.1.1,g.1.1.1.1.1.2,g.1.1.1.1.2,g.1.1.1.2,g.1.1.2,g.1.2⟩
  rw[e]
  by_cases v1:validN m=true<;>by_cases v2:validN o=true<;>by_cases v3:validN x=true
  ·rw[v1,v2]at hf;rw[v3]at vx;rw[v3,v1]at hcm
   by_cases h4:o=[]
   ·subst h4;refine eW Tryz.call199 Tryz.func199 ?_;repeat' first|simp only[go_sem,seval,nn]|refine cP hf ?_|refine cP vx ?_|refine sB ?_|(first|apply pX|apply bX)<;>intro hc|refine⟨oD,?_⟩|exact oD|fail
   ·have e4:(o==([]:Bytes))=false:=by simpa using h4
    by_cases h5:x=[]
    ·subst h5;refine eW Tryz.call199 Tryz.func199 ?_;repeat' first|simp only[go_sem,seval,nn,e4]|refine cP hf ?_|refine cP vx ?_|refine sB ?_|(first|apply pX|apply bX)<;>intro hc|refine⟨oD,?_⟩|exact oD|fail
    ·have e5:(x==([]:Bytes))=false:=by simpa using h5
     have hge:cmpN (num x) (num m)≥0:=by rw[cmpGe];exact Nat.le_of_not_lt fun g=>h ⟨v1,v2,v3,h4,h5,g⟩
     refine eW Tryz.call199 Tryz.func199 ?_;repeat' first|simp only[go_sem,seval,e4,e5]|refine cP hf ?_|refine cP vx ?_|refine cP hcm ?_|refine sB ?_|(first|apply pX|apply bX)<;>intro hc|refine⟨oD,?_⟩|exact oD|fail
  all_goals simp only[Bool.not_eq_true]at v1 v2 v3
  all_goals simp only[v1,v2,Bool.and_true,Bool.and_false,Bool.and_self,Bool.true_and,Bool.false_and]at hf
  all_goals simp only[v3]at vx
  ·refine eW Tryz.call199 Tryz.func199 ?_;repeat' first|simp only[go_sem,seval]|refine cP hf ?_|refine cP vx ?_|refine sB ?_|(first|apply pX|apply bX)<;>intro hc|refine⟨oD,?_⟩|exact oD|fail
  ·refine eW Tryz.call199 Tryz.func199 ?_;repeat' first|simp only[go_sem,seval]|refine cP hf ?_|refine cP vx ?_|refine sB ?_|(first|apply pX|apply bX)<;>intro hc|refine⟨oD,?_⟩|exact oD|fail
  ·refine eW Tryz.call199 Tryz.func199 ?_;repeat' first|simp only[go_sem,seval]|refine cP hf ?_|refine cP vx ?_|refine sB ?_|(first|apply pX|apply bX)<;>intro hc|refine⟨oD,?_⟩|exact oD|fail
  ·refine eW Tryz.call199 Tryz.func199 ?_;repeat' first|simp only[go_sem,seval]|refine cP hf ?_|refine cP vx ?_|refine sB ?_|(first|apply pX|apply bX)<;>intro hc|refine⟨oD,?_⟩|exact oD|fail
  ·refine eW Tryz.call199 Tryz.func199 ?_;repeat' first|simp only[go_sem,seval]|refine cP hf ?_|refine cP vx ?_|refine sB ?_|(first|apply pX|apply bX)<;>intro hc|refine⟨oD,?_⟩|exact oD|fail
  ·refine eW Tryz.call199 Tryz.func199 ?_;repeat' first|simp only[go_sem,seval]|refine cP hf ?_|refine cP vx ?_|refine sB ?_|(first|apply pX|apply bX)<;>intro hc|refine⟨oD,?_⟩|exact oD|fail
  ·refine eW Tryz.call199 Tryz.func199 ?_;repeat' first|simp only[go_sem,seval]|refine cP hf ?_|refine cP vx ?_|refine sB ?_|(first|apply pX|apply bX)<;>intro hc|refine⟨oD,?_⟩|exact oD|fail
theorem pgGen_ok {m:Bytes} (lm:m.length≤8) (o x:Bytes):EvP Tryz.prog 84 [G m o, .s x] (.b (pgHas m o x&& !(x==[1]))):=by
 have h:=pgHas_ok lm o x;generalize pgHas m o x=z at*;refine eW Tryz.call84 Tryz.func84 ?_;repeat' first|simp only[go_sem,seval]|refine cP h ?_|refine sB ?_|(first|apply pX|apply bX)<;>intro hc|refine⟨oD,?_⟩|exact oD|fail
 all_goals simp_all
end Go.Proofs.YtmledjfbgjnknaaGreatDoor
