/-
  Part of the proof, part 26. Own work.
-/
import Derived.Test.YtmobkhegihemeaaGreatDoorM25
set_option linter.all false
namespace Go.Proofs.YtmobkhegihemeaaGreatDoor
open Go Go.Dom Go.Num
set_option maxRecDepth 100000
set_option maxHeartbeats 4000000
def bPV:List PV:=bases12.map fun p:Nat=> .i .u64 (p:Int)
theorem primeBases:EvP Tryz.prog 131 [] (.agg bPV):=by
 refine eW Tryz.call131 Tryz.func131 ?_;repeat' first|simp only[go_sem,seval]|refine sB ?_|(first|apply pX|apply bX)<;>intro hc|refine⟨oD,?_⟩|exact oD|fail
 rfl
theorem primeMul {a b m:Nat} (ha:a<m) (hb:b<m) (hm:m<18446744073709551616):EvP Tryz.prog 134 [.i .u64 a, .i .u64 b, .i .u64 m] (.i .u64 (a*b%m:Nat)):=by
 have h1:=Mul64_ok a b (by omega) (by omega)
 have hp:a*b<m*18446744073709551616:=Nat.lt_of_lt_of_le (Nat.mul_lt_mul_of_lt_of_le ha (Nat.le_of_lt hb) (by omega)) (Nat.mul_le_mul_left m (by omega))
 have h2:a*b/18446744073709551616<m:=(Nat.div_lt_iff_lt_mul (by decide)).2 hp
 have h3:=Div64_ok (a*b/18446744073709551616) (a*b%18446744073709551616) m h2 (Nat.mod_lt _ (by decide)) hm
 have e:a*b/18446744073709551616*18446744073709551616+a*b%18446744073709551616=a*b:=by omega
 rw[e]at h3;refine eW Tryz.call134 Tryz.func134 ?_;repeat' first|simp only[go_sem,seval]|refine cP h1 ?_|refine cP h3 ?_|refine sB ?_|(first|apply pX|apply bX)<;>intro hc|refine⟨oD,?_⟩|exact oD|fail
theorem powHalf (b k m:Nat):(b*b%m)^(k/2)%m=b^(2*(k/2))%m:=by rw[←Nat.pow_mod,←Nat.pow_two,←Nat.pow_mul]
theorem powOdd {x b k m:Nat} (h:k%2=1):x*b%m*(b*b%m)^(k/2)%m=x*b^k%m:=by
 rw[Nat.mul_mod,powHalf,Nat.mod_mod,←Nat.mul_mod,Nat.mul_assoc,←Nat.pow_succ'];congr 3;omega
theorem powEven {x b k m:Nat} (h:k%2=0):x*(b*b%m)^(k/2)%m=x*b^k%m:=by
 rw[Nat.mul_mod,powHalf,←Nat.mul_mod];congr 3;omega
theorem primePow {a e m:Nat} (ha:a<m) (he:e<18446744073709551616) (hm:m<18446744073709551616):EvP Tryz.prog 133 [.i .u64 a, .i .u64 e, .i .u64 m] (.i .u64 (a^e%m:Nat)):=by
 refine eW Tryz.call133 Tryz.func133 ?_;repeat' first|simp only[go_sem,seval]|refine sB ?_|(first|apply pX|apply bX)<;>intro hc|refine⟨oD,?_⟩|exact oD|fail
 refine loop_run (α:=Nat×Nat×Nat) (fun x=>x.2.1) (fun x=>⟨[(0,U x.1),(1,U x.2.1),(2,U m),(7,U x.2.2)],[],_⟩) (fun x=>x.1<m∧x.2.1<18446744073709551616∧x.2.2<m∧x.2.2*x.1^x.2.1%m=a^e%m) (a,e,1%m) (fun _=>Nat.le_refl _) ⟨ha,he,Nat.mod_lt _ (by omega),by show 1%m*a^e%m= _;rw[Nat.mul_mod,Nat.mod_mod,←Nat.mul_mod,Nat.one_mul]⟩ ?_ ?_
 ·(refine AS.Le.of (by first|decide|omega) ?_ ?_<;>simp[LeT,LeH,tget,hget,AV.bd,AV.bd.bdL,u8,bd_cellsOf,bcells_bd,icells_bd])
  rfl
 ·rintro⟨b,k,x⟩ ⟨h1,h2,h3,h4⟩ R hR;simp only at h1 h2 h3 h4;have hs:=primeMul h1 h1 hm;have hx:=primeMul h3 h1 hm;have hk:k/2<18446744073709551616:=by omega
  repeat' first|simp only[go_sem,seval,uw,Nat.mod_eq_of_lt hk]|refine cP hs ?_|refine cP hx ?_|refine sB ?_|(first|apply pX|apply bX)<;>intro hc|refine⟨oD,?_⟩|exact oD|fail
  ·refine hR (b*b%m,k/2,x*b%m) ⟨Nat.mod_lt _ (by omega),hk,Nat.mod_lt _ (by omega),?_⟩ (by show k/2<k;omega) _ ?_
   ·show x*b%m*(b*b%m)^(k/2)%m= _;rw[powOdd (by omega),h4]
   ·exact lE
  ·refine hR (b*b%m,k/2,x) ⟨Nat.mod_lt _ (by omega),hk,h3,?_⟩ (by show k/2<k;omega) _ ?_
   ·show x*(b*b%m)^(k/2)%m= _;rw[powEven (by omega),h4]
   ·exact lE
  ·obtain rfl:k=0:=by omega
   rw[←h4,Nat.pow_zero,Nat.mul_one,Nat.mod_eq_of_lt h3]
theorem tz_eq: ∀f x,Lib.ctzFrom f x=tzF f x
 |0,x=>rfl
 |f+1,x=>by simp only[Lib.ctzFrom,tzF,tz_eq f (x/2)];split<;>omega
theorem bGet {i:Nat} (h:i<12):(List.map AV.v bPV).getD i .u=U (bases12.getD i 0):=by
 have: ∀i:Fin 12,(List.map AV.v bPV).getD i.val .u=U (bases12.getD i.val 0):=by
  intro i;rcases i with⟨i,hi⟩
  have h2:i<bases12.length:=hi;simp[bPV,List.getD_eq_getElem?_getD,h2]
 exact this ⟨i,h⟩
theorem bPos {i:Nat} (h:i<12):0<bases12.getD i 0∧bases12.getD i 0<38:=by
 have: ∀i:Fin 12,0<bases12.getD i.val 0∧bases12.getD i.val 0<38:=by decide
 exact this ⟨i,h⟩
theorem bDrop {i:Nat} (h:i<12):bases12.drop i=bases12.getD i 0::bases12.drop (i+1):=by
 have h2:i<bases12.length:=h;rw[List.drop_eq_getElem_cons h2,List.getD_eq_getElem?_getD,List.getElem?_eq_getElem h2];rfl
theorem primeIs {n:Nat} (hn:n<18446744073709551616):EvP Tryz.prog 76 [.i .u64 n] (.b (isMR n)):=by
 by_cases h2:n<2
 ·have e:isMR n=false:=by simp[isMR,h2]
  rw[e];refine eW Tryz.call76 Tryz.func76 ?_;repeat' first|simp only[go_sem,seval]|refine sB ?_|(first|apply pX|apply bX)<;>intro hc|refine⟨oD,?_⟩|exact oD|fail
 have hb:=primeBases;have hL:(List.map AV.v bPV).length=12:=rfl;refine eW Tryz.call76 Tryz.func76 ?_;repeat' first|simp only[go_sem,seval]|refine cP hb ?_|refine sB ?_|(first|apply pX|apply bX)<;>intro hc|refine⟨oD,?_⟩|exact oD|fail
 refine loop_run (α:=Nat) (fun i=>12-i) (fun i=>⟨[(0,U n),(13, .v (.agg bPV)),(14,E' i)],[],_⟩) (fun i=>i≤12∧bases12.find? (fun p=>n%p==0)=(bases12.drop i).find? (fun p=>n%p==0)) 0 (fun _=>Nat.le_refl _) ⟨by omega,rfl⟩ ?_ ?_
 ·exact lE
 ·rintro i ⟨hi,hf⟩ R hR
  by_cases hlt:i<12
  ·have g1:=bGet hlt;obtain⟨q0,q1⟩:=bPos hlt;rw[bDrop hlt]at hf;generalize bases12.getD i 0=q at*;repeat' first|simp only[go_sem,seval,g1,hL]|refine sB ?_|(first|apply pX|apply bX)<;>intro hc|refine⟨oD,?_⟩|exact oD|fail
   ·have hz:(n%q==0)=true:=by rw[beq_iff_eq];omega
    rw[List.find?_cons,hz]at hf;unfold isMR;rw[if_neg h2,hf];congr 1;rw[Bool.eq_iff_iff];simp only[beq_iff_eq];omega
   ·have hz:(n%q==0)=false:=by rw[beq_eq_false_iff_ne];omega
    rw[List.find?_cons,hz]at hf;refine hR (i+1) ⟨by omega,hf⟩ (by omega) _ ?_
    exact lE
  ·obtain rfl:i=12:=by omega
   have hf:bases12.find? (fun p=>n%p==0)=none:=hf
   obtain⟨s,hs⟩: ∃s,s=tzF 64 (n-1):=⟨_,rfl⟩;obtain⟨d,hd⟩: ∃d,d=(n-1)/2^s:=⟨_,rfl⟩;have hz:=TrailingZeros64_ok (n-1) (by omega) (by omega)
   have hs64:=(Lib.lowest_bit 64 (n-1) (by omega) (by show n-1<18446744073709551616;omega)).2
   have hzs:Lib.ctz 64 (n-1)=s:=by rw[Lib.ctz,if_neg (by omega),tz_eq,hs]
   rw[hzs]at hz hs64;have hdl:d<18446744073709551616:=by rw[hd];exact Nat.lt_of_le_of_lt (Nat.div_le_self _ _) (by omega)
   have e1: ∀ _:True,((n:Int)-1)=((n-1:Nat):Int):=fun _=>by omega
   have e2: ∀ _:True,(if s≤64 then s else 64)=s:=fun _=>by split<;>omega
   have e3: ∀ _:True,(n-1)/2^s=d:=fun _=>hd.symm
   have key:isMR n=bases12.all (strong n s d):=by
    unfold isMR;rw[if_neg h2,hf,←hs,←hd]
   rw[key];clear key hf hzs hs hd;repeat' first|simp only[go_sem,seval,e1 trivial,e2 trivial,e3 trivial]|refine cP hz ?_|refine cP hb ?_|refine sB ?_|(first|apply pX|apply bX)<;>intro hc|refine⟨oD,?_⟩|exact oD|fail
   refine loop_run (α:=Nat) (fun i=>12-i) (fun i=>⟨[(0,U n),(5,E' s),(6,U d),(32, .v (.agg bPV)),(33,E' i)],[],_⟩) (fun i=>i≤12∧bases12.all (strong n s d)=(bases12.drop i).all (strong n s d)) 0 (fun _=>Nat.le_refl _) ⟨by omega,rfl⟩ ?_ ?_
   ·exact lE
   ·rintro i ⟨hi,hf⟩ R hR
    by_cases hlt:i<12
    ·have g1:=bGet hlt;obtain⟨q0,q1⟩:=bPos hlt;rw[bDrop hlt,List.all_cons]at hf;have hR1:=hR (i+1);generalize bases12.getD i 0=q at*;have hq:q%n<n:=Nat.mod_lt _ (by omega)
     have hp:=primePow hq hdl hn;obtain⟨x,hx⟩: ∃x,x=(q%n)^d%n:=⟨_,rfl⟩;have hxl:x<n:=by rw[hx];exact Nat.mod_lt _ (by omega)
     have hst:strong n s d q=(x==1||x==n-1||sqs (s-1) x n):=by rw[hx];rfl
     rw[←hx]at hp;clear hx;repeat' first|simp only[go_sem,seval,g1,hL,e1 trivial]|refine cP hp ?_|refine sB ?_|(first|apply pX|apply bX)<;>intro hc|refine⟨oD,?_⟩|exact oD|fail
     ·have hx1:x=1:=by omega
      refine hR1 ⟨by omega,by rw[hf,hst,hx1];simp⟩ (by omega) _ ?_
      exact lE
     ·have hx1:x=n-1:=by omega
      refine hR1 ⟨by omega,by rw[hf,hst,hx1];simp⟩ (by omega) _ ?_
      exact lE
     ·have hx1:(x==1)=false:=by rw[beq_eq_false_iff_ne];omega
      have hx2:(x==n-1)=false:=by rw[beq_eq_false_iff_ne];omega
      rw[hx1,hx2,Bool.false_or,Bool.false_or]at hst;refine loop_run (α:=Nat×Nat) (fun z=>s-z.1) (fun z=>⟨[(0,U n),(5,E' s),(6,U d),(32, .v (.agg bPV)),(33,E' i),(9,U z.2),(10,E' z.1)],[],_⟩) (fun z=>1≤z.1∧z.2<n∧sqs (s-z.1) z.2 n=sqs (s-1) x n) (1,x) (fun _=>Nat.le_refl _) ⟨Nat.le_refl 1,hxl,rfl⟩ ?_ ?_
      ·exact lE
      ·rintro⟨j,y⟩ ⟨hj,hy,hz⟩ R' hR';simp only at hj hy hz;have hm:=primeMul hy hy hn;obtain⟨w,hw⟩: ∃w,w=y*y%n:=⟨_,rfl⟩;have hwl:w<n:=by rw[hw];exact Nat.mod_lt _ (by omega)
       have hz':j<s→(w==n-1||sqs (s-(j+1)) w n)=sqs (s-1) x n:=by
        intro g;rw[←hz,show s-j=s-(j+1)+1 by omega,hw];rfl
       rw[←hw]at hm;clear hw;repeat' first|simp only[go_sem,seval,e1 trivial]|refine cP hm ?_|refine sB ?_|(first|apply pX|apply bX)<;>intro hc|refine⟨oD,?_⟩|exact oD|fail
       ·have hw1:w=n-1:=by omega
        have:=hz' (by omega)
        rw[hw1,beq_self_eq_true,Bool.true_or]at this;refine hR1 ⟨by omega,by rw[hf,hst,←this,Bool.true_and]⟩ (by omega) _ ?_
        exact lE
       ·have hw1:(w==n-1)=false:=by rw[beq_eq_false_iff_ne];omega
        have:=hz' (by omega)
        rw[hw1,Bool.false_or]at this;refine hR' (j+1,w) ⟨by show 1≤j+1;omega,hwl,this⟩ (by show s-(j+1)<s-j;omega) _ ?_
        exact lE
       ·rw[hf,hst,←hz,show s-j=0 by omega];rfl
    ·obtain rfl:i=12:=by omega
     repeat' first|simp only[go_sem,seval]|refine sB ?_|(first|apply pX|apply bX)<;>intro hc|refine⟨oD,?_⟩|exact oD|fail
     rw[hf];rfl
theorem primeSmall (a:Bytes):EvP Tryz.prog 75 [.s a] (.tup [.i .u64 (if validN a&&decide (a.length≤8)then num a else 0),E (if validN a then(if a.length≤8 then 0 else 5)else 3)]):=by
 have hs:=Small_ok a;have hv:=natValid a;refine eW Tryz.call75 Tryz.func75 ?_;repeat' first|simp only[go_sem,seval]|refine cP hv ?_|refine cP hs ?_|refine sB ?_|(first|apply pX|apply bX)<;>intro hc|refine⟨oD,?_⟩|exact oD|fail
 all_goals (simp_all<;>omega)
def primeE (a:Bytes):Int:=if validN a then(if a.length≤8 then 0 else 5)else 3
theorem primeIsOk (a:Bytes):EvP Tryz.prog 29 [.s a] (.tup [.b (validN a&&decide (a.length≤8)&&isMR (num a)),E (primeE a)]):=by
 have hs:=primeSmall a
 by_cases h:validN a=true∧a.length≤8
 ·obtain⟨h1,h2⟩:=h;have e:primeE a=0:=by simp[primeE,h1,h2]
  rw[h1,decide_eq_true h2]at hs;have hi:=primeIs (num8 h2);rw[h1,decide_eq_true h2,e];refine eW Tryz.call29 Tryz.func29 ?_;repeat' first|simp only[go_sem,seval,if_true,if_pos h2]|refine cP hs ?_|refine cP hi ?_|refine sB ?_|(first|apply pX|apply bX)<;>intro hc|refine⟨oD,?_⟩|exact oD|fail
  all_goals skip
 ·have h0:(validN a&&decide (a.length≤8))=false:=by
   rw[Bool.eq_false_iff];intro g;simp at g;exact h g
  have e:primeE a≠0:=by
   unfold primeE;split
   ·rename_i g;rw[if_neg (fun g2=>h ⟨g,g2⟩)];decide
   ·decide
  rw[h0]at hs⊢;have e2:(if validN a then(if a.length≤8 then(0:Int)else 5)else 3)=primeE a:=rfl
  rw[e2]at hs;refine eW Tryz.call29 Tryz.func29 ?_;repeat' first|simp only[go_sem,seval]|refine cP hs ?_|refine sB ?_|(first|apply pX|apply bX)<;>intro hc|refine⟨oD,?_⟩|exact oD|fail
  all_goals skip
abbrev G (m o:Bytes):PV:= .agg [.s m, .s o]
theorem N_of {a:Bytes} (h:validN a=true):N (num a)= .s a:=congrArg PV.s (bts_of h)
def goodB (m o:Bytes):Bool:=validN m&&o==[]&&(num m).testBit 0&&decide (8<num m)
theorem Of8:EvP Tryz.prog 31 [.i .u64 8] (.s [8]):=Of_ok 8 (by decide)
theorem Of1:EvP Tryz.prog 31 [.i .u64 1] (.s [1]):=Of_ok 1 (by decide)
theorem Of2:EvP Tryz.prog 31 [.i .u64 2] (.s [2]):=Of_ok 2 (by decide)
theorem good_ok (m o:Bytes):EvP Tryz.prog 214 [G m o] (.b (goodB m o)):=by
 have hv:=natValid m
 by_cases h:validN m=true
 ·have hb:=Bit_ok h 0 (by decide)
  have hcm:=Cmp_ok m [8];rw[h]at hv;rw[h,show validN [8]=true from rfl,show num [8]=8 from rfl]at hcm
  have he:cmpN (num m) 8>0↔8<num m:=by unfold cmpN;split<;>(try split)<;>omega
  refine eW Tryz.call214 Tryz.func214 ?_;repeat' first|simp only[go_sem,seval]|refine cP hv ?_|refine cP hb ?_|refine cP Of8 ?_|refine cP hcm ?_|refine sB ?_|(first|apply pX|apply bX)<;>intro hc|refine⟨oD,?_⟩|exact oD|fail
  all_goals simp_all[goodB]
 ·have h:validN m=false:=by simpa using h
  rw[h]at hv;have e:goodB m o=false:=by simp[goodB,h]
  rw[e];refine eW Tryz.call214 Tryz.func214 ?_;repeat' first|simp only[go_sem,seval]|refine cP hv ?_|refine sB ?_|(first|apply pX|apply bX)<;>intro hc|refine⟨oD,?_⟩|exact oD|fail
theorem rone_ok:EvP Tryz.prog 216 [] (N 1):=by
 refine eW Tryz.call216 Tryz.func216 ?_;repeat' first|simp only[go_sem,seval]|refine cP Of1 ?_|refine sB ?_|(first|apply pX|apply bX)<;>intro hc|refine⟨oD,?_⟩|exact oD|fail
 all_goals rfl
def rHas (m o x:Bytes):Bool:=goodB m o&&validN x&& !(x==[])&&decide (num x<num m)&&decide (Nat.gcd (num x) (num m)=1)
theorem cmpGe (a b:Nat):(cmpN a b≥0)=(b≤a):=by
 unfold cmpN;rw[eq_iff_iff];split<;>(try split)<;>omega
theorem rHas_ok {m:Bytes} (lm:m.length≤8) (o x:Bytes):EvP Tryz.prog 137 [G m o, .s x] (.b (rHas m o x)):=by
 have hg:=good_ok m o;have hv:=natValid x
 by_cases h:goodB m o=true∧validN x=true∧x≠[]∧num x<num m
 ·obtain⟨h1,h2,h3,h4⟩:=h;have hm:validN m=true:=by simp[goodB]at h1;exact h1.1.1.1
  have hcm:=Cmp_ok x m;rw[h2,hm]at hcm;have hnm:=num8 lm;have hgc:=GcdN (a:=num x) (b:=num m) (by omega) hnm
  rw[N_of h2,N_of hm]at hgc;rw[h1]at hg;rw[h2]at hv;have hx:(x==([]:Bytes))=false:=by simpa using h3
  have hlt: ¬cmpN (num x) (num m)≥0:=by rw[cmpGe];omega
  have e:rHas m o x=decide (Nat.gcd (num x) (num m)=1):=by simp[rHas,h1,h2,h4];intro;exact h3
  rw[e];refine eW Tryz.call137 Tryz.func137 ?_;repeat' first|simp only[go_sem,seval,hx,btsEq]|refine cP hg ?_|refine cP hv ?_|refine cP hcm ?_|refine cP hgc ?_|refine cP rone_ok ?_|refine sB ?_|(first|apply pX|apply bX)<;>intro hc|refine⟨oD,?_⟩|exact oD|fail
  all_goals skip
 ·have e:rHas m o x=false:=by
   rw[Bool.eq_false_iff];intro g;simp[rHas]at g;exact h ⟨g.1.1.1.1,g.1.1.1.2,g.1.1.2,g.1.2⟩
  have hcm:=Cmp_ok x m;rw[e]
  by_cases h1:goodB m o=true
  ·have hm:validN m=true:=by simp[goodB]at h1;exact h1.1.1.1
   rw[h1]at hg
   by_cases h2:validN x=true
   ·rw[h2]at hv;rw[h2,hm]at hcm
    by_cases h3:x=[]
    ·subst h3;refine eW Tryz.call137 Tryz.func137 ?_;repeat' first|simp only[go_sem,seval,nn]|refine cP hg ?_|refine cP hv ?_|refine sB ?_|(first|apply pX|apply bX)<;>intro hc|refine⟨oD,?_⟩|exact oD|fail
    ·have hx:(x==([]:Bytes))=false:=by simpa using h3
     have hge:cmpN (num x) (num m)≥0:=by rw[cmpGe];exact Nat.le_of_not_lt fun g=>h ⟨h1,h2,h3,g⟩
     refine eW Tryz.call137 Tryz.func137 ?_;repeat' first|simp only[go_sem,seval,hx]|refine cP hg ?_|refine cP hv ?_|refine cP hcm ?_|refine sB ?_|(first|apply pX|apply bX)<;>intro hc|refine⟨oD,?_⟩|exact oD|fail
     all_goals skip
   ·have h2:validN x=false:=by simpa using h2
    rw[h2]at hv;refine eW Tryz.call137 Tryz.func137 ?_;repeat' first|simp only[go_sem,seval]|refine cP hg ?_|refine cP hv ?_|refine sB ?_|(first|apply pX|apply bX)<;>intro hc|refine⟨oD,?_⟩|exact oD|fail
  ·have h1:goodB m o=false:=by simpa using h1
   rw[h1]at hg;refine eW Tryz.call137 Tryz.func137 ?_;repeat' first|simp only[go_sem,seval]|refine cP hg ?_|refine sB ?_|(first|apply pX|apply bX)<;>intro hc|refine⟨oD,?_⟩|exact oD|fail
structure Trap (m o p q:Bytes):Prop where
 vm:validN m=true
 vp:validN p=true
 vq:validN q=true
 lp:p.length≤8
 lq:q.length≤8
 o:o=[]
 mul:num m=num p*num q
 odd:num m%2=1
 sp:isSafe (num p)=true
 sq:isSafe (num q)=true
 ne:num p≠num q
end Go.Proofs.YtmobkhegihemeaaGreatDoor
namespace Go.Proofs.YtmobkhegihemeaaGreatDoor
open Go Go.Dom Go.Num
set_option maxRecDepth 100000
set_option maxHeartbeats 8000000
theorem getD_S {l:List Bytes} {x:Nat} (h:x<l.length):(l.map PV.s).getD x .fn0= .s (l.getD x []):=by
 simp[List.getD_eq_getElem?_getD,h]
theorem cells_S {l:List Bytes} {y:PV} (h:y∈l.map PV.s):y.cells.length=1:=by
 obtain⟨c,_,rfl⟩:=List.mem_map.1 h;rfl
def idxF {α:Type} (p:α→Bool):Nat→List α→Int
 | _,[]=> -1
 |k,x::r=>if p x then(k:Int)else idxF p (k+1) r
theorem idxF_neg {α:Type} {p:α→Bool}: ∀{l:List α} {k:Nat},0≤idxF p k l↔l.any p=true
 |[],k=>by simp[idxF]
 |x::r,k=>by
  simp only[idxF,List.any_cons];split
  ·rename_i h;simp[h]
  ·rename_i h;simp only[Bool.not_eq_true]at h;rw[idxF_neg,h,Bool.false_or]
theorem drop_cons {l:List Bytes} {i:Nat} (h:i<l.length):l.drop i=l.getD i []::l.drop (i+1):=by
 rw[List.drop_eq_getElem_cons h,List.getD_eq_getElem?_getD,List.getElem?_eq_getElem h];rfl
theorem IndexFuncN_ok (l:List Bytes) (f:FuncId) (p:Bytes→Bool) (hl:l.length<4611686018427387904) (h: ∀x,EvP Tryz.prog f [.s x] (.b (p x))):EvP Tryz.prog 312 [.sl (l.map .s), .fn (.func f)] (E (idxF p 0 l)):=by
 refine eW Tryz.call312 Tryz.func312 ?_;repeat' first|simp only[go_sem,seval]|refine sB ?_|(first|apply pX|apply bX)<;>intro hc|refine⟨oD,?_⟩|exact oD|fail
 refine loop_run (α:=Nat) (fun i=>l.length-i) (fun i=>⟨[(0, .v (.sl (l.map .s))),(1, .v (.fn (.func f))),(7, .v (.i .i64 l.length)),(8, .v (.i .i64 (i:Nat)))],[],_⟩) (fun i=>i≤l.length∧idxF p i (l.drop i)=idxF p 0 l) 0 (fun _=>Nat.le_refl _) ⟨Nat.zero_le _,rfl⟩ ?_ ?_
 ·exact lE
 ·rintro i ⟨hi,hx⟩ R hR;rw[←hx]
  by_cases hlt:i<l.length
  ·have e1:=getD_S hlt;have hf:=h (l.getD i []);have hgo:=hR (i+1);rw[←hx,drop_cons hlt]at hgo;rw[drop_cons hlt];simp only[idxF]at hgo⊢;clear hx hR h;generalize p (l.getD i [])=b at*;repeat' first|simp only[go_sem,seval,e1]|refine cP hf ?_|refine sB ?_|(first|apply pX|apply bX)<;>intro hc|refine⟨oD,?_⟩|exact oD|fail
   all_goals first
    |(refine hgo ⟨by omega,by simp_all⟩ (by omega) _ ?_;(refine AS.Le.of (by first|decide|omega) ?_ ?_<;>simp[LeT,LeH,tget,hget,AV.bd,AV.bd.bdL,u8,bd_cellsOf,bcells_bd,icells_bd]);done)
    |(simp_all;done)
    |skip
  ·obtain rfl:i=l.length:=by omega
   rw[List.drop_length];repeat' first|simp only[go_sem,seval]|refine sB ?_|(first|apply pX|apply bX)<;>intro hc|refine⟨oD,?_⟩|exact oD|fail
   all_goals simp[idxF]
theorem ContainsFuncN_ok (l:List Bytes) (f:FuncId) (p:Bytes→Bool) (hl:l.length<4611686018427387904) (h: ∀x,EvP Tryz.prog f [.s x] (.b (p x))):EvP Tryz.prog 245 [.sl (l.map .s), .fn (.func f)] (.b (l.any p)):=by
 have hi:=IndexFuncN_ok l f p hl h;have e:decide (idxF p 0 l≥0)=l.any p:=by
  rw[Bool.eq_iff_iff,decide_eq_true_iff];exact idxF_neg
 refine eW Tryz.call245 Tryz.func245 ?_;repeat' first|simp only[go_sem,seval,e]|refine cP hi ?_|refine sB ?_|(first|apply pX|apply bX)<;>intro hc|refine⟨oD,?_⟩|exact oD|fail
abbrev T (vs:List Bytes) (sd:Bytes) (at':Int):PV:= .agg [.sl (vs.map .s), .s sd, .i .i64 at']
theorem good1_ok (x:Bytes):EvP Tryz.prog 246 [.s x] (.b (!validN x)):=by
 have hv:=natValid x;refine eW Tryz.call246 Tryz.func246 ?_;repeat' first|simp only[go_sem,seval]|refine cP hv ?_|refine sB ?_|(first|apply pX|apply bX)<;>intro hc|refine⟨oD,?_⟩|exact oD|fail
def goodT (vs:List Bytes) (at':Int):Bool:=decide (at'≥0)&&decide (at'≤2147483647)&& !(vs.any fun x=> !validN x)
theorem coinsgood_ok (vs:List Bytes) (sd:Bytes) (at':Int) (hl:vs.length<4611686018427387904):EvP Tryz.prog 165 [T vs sd at'] (.b (goodT vs at')):=by
 have hcf:=ContainsFuncN_ok vs _ (fun x=> !validN x) hl good1_ok
 unfold goodT;generalize (vs.any fun x=> !validN x)=b at*
 refine eW Tryz.call165 Tryz.func165 ?_;repeat' first|simp only[go_sem,seval]|refine cP hcf ?_|refine sB ?_|(first|apply pX|apply bX)<;>intro hc|refine⟨oD,?_⟩|exact oD|fail
 all_goals simp_all
 all_goals (intros;omega)
def readyE (vs:List Bytes) (at':Int) (n:Bytes):Int:=if !(goodT vs at'&&validN n)then 3 else if n=[]then 11 else 0
theorem ready_ok (vs:List Bytes) (sd:Bytes) (at':Int) (n:Bytes) (hl:vs.length<4611686018427387904):EvP Tryz.prog 110 [T vs sd at', .s n] (E (readyE vs at' n)):=by
 have hg:=coinsgood_ok vs sd at' hl;have hv:=natValid n;unfold readyE;generalize goodT vs at'=b at*;generalize validN n=b2 at*;refine eW Tryz.call110 Tryz.func110 ?_;repeat' first|simp only[go_sem,seval]|refine cP hg ?_|refine cP hv ?_|refine sB ?_|(first|apply pX|apply bX)<;>intro hc|refine⟨oD,?_⟩|exact oD|fail
 all_goals simp_all
def drawR (vs:List Bytes) (sd:Bytes) (i:Nat) (n:Bytes):PV:=
 if num n≤num (vs.getD i [])then .tup [.s [],T [] [] 0,E 2]else .tup [.s (vs.getD i []),T vs sd (i+1:Nat),E 0]
theorem flat_S (l:List Bytes):(l.map PV.s).flatMap PV.cells=l.map PV.s:=by
 induction l with
 |nil=>rfl
 |cons x r ih=>simp_all[PV.cells]
theorem one_SA {l:List Bytes} {y:AV} (h:y∈List.map AV.v (List.flatMap PV.cells (l.map PV.s))):y.one=true:=by
 rw[flat_S,List.map_map]at h;obtain⟨c,_,rfl⟩:=List.mem_map.1 h;rfl
theorem flat_rep (n:Nat) (x:AV):(List.replicate n [x]).flatten.length=n:=by
 induction n with
 |zero=>rfl
 |succ n ih=>rw[List.replicate_succ,List.flatten_cons,List.length_append,ih,List.length_singleton];omega
theorem rowS (vs:List Bytes):List.drop vs.length (List.replicate vs.length [AV.v (PV.s [])]).flatten=[]∧(List.map AV.v (List.map PV.s vs)).all AV.one=true∧List.take vs.length (List.map AV.v (List.map PV.s vs))=List.map AV.v (List.map PV.s vs)∧chunk 1 vs.length (List.map PV.s vs)=List.map PV.s vs:=by
 refine⟨?_,?_,?_,?_⟩
 ·rw[List.drop_of_length_le (by rw[flat_rep];exact Nat.le_refl _)]
 ·simp[List.all_eq_true,AV.one,PV.one]
 ·rw[List.take_of_length_le (by simp)]
 ·have:=chunk1 (List.map PV.s vs);rwa[List.length_map]at this
theorem getD_mem {vs:List Bytes} {i:Nat} (hi:i<vs.length):vs.getD i []∈vs:=by
 rw[List.getD_eq_getElem?_getD,List.getElem?_eq_getElem hi];exact List.getElem_mem hi
theorem draw_ok {vs:List Bytes} (sd:Bytes) {i:Nat} {n:Bytes} (hv:vs.all validN=true) (hn:validN n=true) (hi:i<vs.length) (hl:vs.length<1000000):EvP Tryz.prog 111 [T vs sd i, .s n] (drawR vs sd i n):=by
 have hx:validN (vs.getD i [])=true:=List.all_eq_true.1 hv _ (getD_mem hi);have hcm:=Cmp_ok (vs.getD i []) n;rw[hx,hn]at hcm;simp only[Bool.and_self,if_true]at hcm;have e1:=getD_S hi;have e2:(cmpN (num (vs.getD i [])) (num n)≥0)=(num n≤num (vs.getD i [])):=cmpGe _ _;unfold drawR;generalize cmpN (num (vs.getD i [])) (num n)=cm at*
 by_cases hle:num n≤num (vs.getD i [])
 ·rw[if_pos hle];have e3:cm≥0:=by rw[e2];exact hle
  refine eW Tryz.call111 Tryz.func111 ?_;repeat' first|simp only[go_sem,seval,e1]|refine cP hcm ?_|refine sB ?_|(first|apply pX|apply bX)<;>intro hc|refine⟨oD,?_⟩|exact oD|fail
  rfl
 ·rw[if_neg hle];have e3: ¬cm≥0:=by rw[e2];exact hle
  refine eW Tryz.call111 Tryz.func111 ?_;repeat' first|simp only[go_sem,seval,e1]|refine cP hcm ?_|refine sB ?_|(first|apply pX|apply bX)<;>intro hc|refine⟨oD,?_⟩|exact oD|fail
  refine⟨⟨fun x hx=>cells_S hx,fun y hy=>one_SA hy,by rw[flat_rep];exact Nat.le_refl _⟩,?_⟩
  obtain⟨r1,r2,r3,r4⟩:=rowS vs;repeat' first|simp only[go_sem,seval,e1,flat_rep,flat_S,r1,r2,r3,r4,mapO_view_v]|refine sB ?_|(first|apply pX|apply bX)<;>intro hc|refine⟨oD,?_⟩|exact oD|fail
  simp
end Go.Proofs.YtmobkhegihemeaaGreatDoor
