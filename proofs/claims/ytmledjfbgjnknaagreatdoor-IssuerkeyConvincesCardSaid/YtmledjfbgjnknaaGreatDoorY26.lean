/-
  Part of the proof, part Y26. Own work.
-/
import Derived.Test.YtmledjfbgjnknaaGreatDoorY25
set_option linter.all false
namespace Go.Num
def Pr (n:Nat):Prop:=2≤n∧ ∀d,d∣n→d=1∨d=n
theorem Pr.cop {p a:Nat} (h:Pr p) (ha: ¬p∣a):Nat.Coprime a p:=by
 rcases h.2 _ (Nat.gcd_dvd_right a p)with e|e
 ·exact e
 ·exact absurd (e▸Nat.gcd_dvd_left a p) ha
def bases12:List Nat:=[2,3,5,7,11,13,17,19,23,29,31,37]
def tzF:Nat→Nat→Nat
 |0,_=>0
 |f+1,n=>if n%2=1 then 0 else tzF f (n/2)+1
def sqs:Nat→Nat→Nat→Bool
 |0,_,_=>false
 |k+1,x,n=>x*x%n==n-1||sqs k (x*x%n) n
def strong (n s d a:Nat):Bool:=(a%n)^d%n==1||(a%n)^d%n==n-1||sqs (s-1) ((a%n)^d%n) n
def isMR (n:Nat):Bool:=
 if n<2 then false else
 match bases12.find? fun p=>n%p==0 with
 |some p=>n==p
 |none=>bases12.all fun a=>strong n (tzF 64 (n-1)) ((n-1)/2^tzF 64 (n-1)) a
def flip8 (n:Nat) (s:Int):Int:=if n%8=3∨n%8=5 then-s else s
def flip4 (a n:Nat) (s:Int):Int:=if a%4=3∧n%4=3 then-s else s
def jacF:Nat→Nat→Nat→Int→Int
 |0,_,_,_=>0
 |f+1,a,n,s=>if a=0 then(if n=1 then s else 0)else if a%2=0 then jacF f (a/2) n (flip8 n s)else jacF f (n%a) a (flip4 a n s)
def jac (a n:Nat):Int:=jacF (a%n+1) (a%n) n 1
theorem jacF_step {f g a n:Nat} {s:Int} (hf:a<f) (hg:a<g):jacF f a n s=jacF g a n s:=by
 induction f generalizing g a n s with
 |zero=>omega
 |succ f ih=>
  obtain⟨g,rfl⟩: ∃k,g=k+1:=⟨g-1,by omega⟩
  simp only[jacF]
  by_cases h0:a=0
  ·simp[h0]
  ·rw[if_neg h0,if_neg h0];split
   ·exact ih (by omega) (by omega)
   ·have:n%a<a:=Nat.mod_lt _ (by omega)
    exact ih (by omega) (by omega)
def isSafe (n:Nat):Bool:=isMR n&&isMR ((n-1)/2)
end Go.Num
namespace Go.Proofs.YtmledjfbgjnknaaGreatDoor
open Go Go.Dom Go.Num
set_option maxRecDepth 100000
set_option maxHeartbeats 4000000
def bPV:List PV:=bases12.map fun p:Nat=> .i .u64 (p:Int)
theorem primeBases:EvP Tryz.prog 397 [] (.agg bPV):=by
 refine eW Tryz.call397 Tryz.func397 ?_;repeat' first|simp only[go_sem,seval]|refine sB ?_|(first|apply pX|apply bX)<;>intro hc|refine⟨oD,?_⟩|exact oD|fail
 rfl
theorem primeMul {a b m:Nat} (ha:a<m) (hb:b<m) (hm:m<18446744073709551616):EvP Tryz.prog 400 [.i .u64 a, .i .u64 b, .i .u64 m] (.i .u64 (a*b%m:Nat)):=by
 have h1:=Mul64_ok a b (by omega) (by omega)
 have hp:a*b<m*18446744073709551616:=Nat.lt_of_lt_of_le (Nat.mul_lt_mul_of_lt_of_le ha (Nat.le_of_lt hb) (by omega)) (Nat.mul_le_mul_left m (by omega))
 have h2:a*b/18446744073709551616<m:=(Nat.div_lt_iff_lt_mul (by decide)).2 hp
 have h3:=Div64_ok (a*b/18446744073709551616) (a*b%18446744073709551616) m h2 (Nat.mod_lt _ (by decide)) hm
 have e:a*b/18446744073709551616*18446744073709551616+a*b%18446744073709551616=a*b:=by omega
 rw[e]at h3;refine eW Tryz.call400 Tryz.func400 ?_;repeat' first|simp only[go_sem,seval]|refine cP h1 ?_|refine cP h3 ?_|refine sB ?_|(first|apply pX|apply bX)<;>intro hc|refine⟨oD,?_⟩|exact oD|fail
theorem powHalf (b k m:Nat):(b*b%m)^(k/2)%m=b^(2*(k/2))%m:=by rw[←Nat.pow_mod,←Nat.pow_two,←Nat.pow_mul]
theorem powOdd {x b k m:Nat} (h:k%2=1):x*b%m*(b*b%m)^(k/2)%m=x*b^k%m:=by
 rw[Nat.mul_mod,powHalf,Nat.mod_mod,←Nat.mul_mod,Nat.mul_assoc,←Nat.pow_succ'];congr 3;omega
theorem powEven {x b k m:Nat} (h:k%2=0):x*(b*b%m)^(k/2)%m=x*b^k%m:=by
 rw[Nat.mul_mod,powHalf,←Nat.mul_mod];congr 3;omega
theorem primePow {a e m:Nat} (ha:a<m) (he:e<18446744073709551616) (hm:m<18446744073709551616):EvP Tryz.prog 399 [.i .u64 a, .i .u64 e, .i .u64 m] (.i .u64 (a^e%m:Nat)):=by
 refine eW Tryz.call399 Tryz.func399 ?_;repeat' first|simp only[go_sem,seval]|refine sB ?_|(first|apply pX|apply bX)<;>intro hc|refine⟨oD,?_⟩|exact oD|fail
 refine loop_run (α:=Nat×Nat×Nat) (fun x=>x.2.1) (fun x=>⟨[(0,U x.1),(1,U x.2.1),(2,U m),(7,U x.2.2)],[],_⟩) (fun x=>x.1<m∧x.2.1<18446744073709551616∧x.2.2<m∧x.2.2*x.1^x.2.1%m=a^e%m) (a,e,1%m) (fun _=>Nat.le_refl _) ⟨ha,he,Nat.mod_lt _ (by omega),by show 1%m*a^e%m= _;rw[Nat.mul_mod,Nat.mod_mod,←Nat.mul_mod,Nat.one_mul]⟩ ?_ ?_
 ·(refine AS.Le.of (by first|decide|omega) ?_ ?_<;>simp[LeT,LeH,tget,hget,AV.bd,AV.bd.bdL,u8,bd_cellsOf,bcells_bd,icells_bd])
  rfl
 ·rintro⟨b,k,x⟩ ⟨h1,h2,h3,h4⟩ R hR;simp only at h1 h2 h3 h4;have hs:=primeMul h1 h1 hm;have hx:=primeMul h3 h1 hm;have hk:k/2<18446744073709551616:=by omega
  repeat' first|simp only[go_sem,seval,uw,Nat.mod_eq_of_lt hk]|refine cP hs ?_|refine cP hx ?_|refine sB ?_|(first|apply pX|apply bX)<;>intro hc|refine⟨oD,?_⟩|exact oD|fail
  ·refine hR (b*b%m,k/2,x*b%m) ⟨Nat.mod_lt _ (by omega),hk,Nat.mod_lt _ (by omega),?_⟩ (by show k/2<k;omega) _ ?_
   ·show x*b%m*(b*b%m)^(k/2)%m= _;rw[powOdd (by omega),h4]
   ·exact lE
  ·refine hR (b*b%m,k/2,x) ⟨Nat.mod_lt _ (by omega),hk,h3,?_⟩ (by show k/2<k;omega) _ ?_
   ·show x*(b*b%m)^(k/2)%m= _;rw[powEven (by omega),h4]
   ·exact lE
  ·obtain rfl:k=0:=by omega
   rw[←h4,Nat.pow_zero,Nat.mul_one,Nat.mod_eq_of_lt h3]
theorem tz_eq: ∀f x,Lib.ctzFrom f x=tzF f x
 |0,x=>rfl
 |f+1,x=>by simp only[Lib.ctzFrom,tzF,tz_eq f (x/2)];split<;>omega
theorem bGet {i:Nat} (h:i<12):(List.map AV.v bPV).getD i .u=U (bases12.getD i 0):=by
 have: ∀i:Fin 12,(List.map AV.v bPV).getD i.val .u=U (bases12.getD i.val 0):=by
  intro i;rcases i with⟨i,hi⟩
  have h2:i<bases12.length:=hi;simp[bPV,List.getD_eq_getElem?_getD,h2]
 exact this ⟨i,h⟩
theorem bPos {i:Nat} (h:i<12):0<bases12.getD i 0∧bases12.getD i 0<38:=by
 have: ∀i:Fin 12,0<bases12.getD i.val 0∧bases12.getD i.val 0<38:=by decide
 exact this ⟨i,h⟩
theorem bDrop {i:Nat} (h:i<12):bases12.drop i=bases12.getD i 0::bases12.drop (i+1):=by
 have h2:i<bases12.length:=h;rw[List.drop_eq_getElem_cons h2,List.getD_eq_getElem?_getD,List.getElem?_eq_getElem h2];rfl
theorem primeIs {n:Nat} (hn:n<18446744073709551616):EvP Tryz.prog 322 [.i .u64 n] (.b (isMR n)):=by
 by_cases h2:n<2
 ·have e:isMR n=false:=by simp[isMR,h2]
  rw[e];refine eW Tryz.call322 Tryz.func322 ?_;repeat' first|simp only[go_sem,seval]|refine sB ?_|(first|apply pX|apply bX)<;>intro hc|refine⟨oD,?_⟩|exact oD|fail
 have hb:=primeBases;have hL:(List.map AV.v bPV).length=12:=rfl;refine eW Tryz.call322 Tryz.func322 ?_;repeat' first|simp only[go_sem,seval]|refine cP hb ?_|refine sB ?_|(first|apply pX|apply bX)<;>intro hc|refine⟨oD,?_⟩|exact oD|fail
 refine loop_run (α:=Nat) (fun i=>12-i) (fun i=>⟨[(0,U n),(13, .v (.agg bPV)),(14,E' i)],[],_⟩) (fun i=>i≤12∧bases12.find? (fun p=>n%p==0)=(bases12.drop i).find? (fun p=>n%p==0)) 0 (fun _=>Nat.le_refl _) ⟨by omega,rfl⟩ ?_ ?_
 ·exact lE
 ·rintro i ⟨hi,hf⟩ R hR
  by_cases hlt:i<12
  ·have g1:=bGet hlt;obtain⟨q0,q1⟩:=bPos hlt;rw[bDrop hlt]at hf;generalize bases12.getD i 0=q at*;repeat' first|simp only[go_sem,seval,g1,hL]|refine sB ?_|(first|apply pX|apply bX)<;>intro hc|refine⟨oD,?_⟩|exact oD|fail
   ·have hz:(n%q==0)=true:=by rw[beq_iff_eq];omega
    rw[List.find?_cons,hz]at hf;unfold isMR;rw[if_neg h2,hf];congr 1;rw[Bool.eq_iff_iff];simp only[beq_iff_eq];omega
   ·have hz:(n%q==0)=false:=by rw[beq_eq_false_iff_ne];omega
    rw[List.find?_cons,hz]at hf;refine hR (i+1) ⟨by omega,hf⟩ (by omega) _ ?_
    exact lE
  ·obtain rfl:i=12:=by omega
   have hf:bases12.find? (fun p=>n%p==0)=none:=hf
   obtain⟨s,hs⟩: ∃s,s=tzF 64 (n-1):=⟨_,rfl⟩;obtain⟨d,hd⟩: ∃d,d=(n-1)/2^s:=⟨_,rfl⟩;have hz:=TrailingZeros64_ok (n-1) (by omega) (by omega)
   have hs64:=(Lib.lowest_bit 64 (n-1) (by omega) (by show n-1<18446744073709551616;omega)).2
   have hzs:Lib.ctz 64 (n-1)=s:=by rw[Lib.ctz,if_neg (by omega),tz_eq,hs]
   rw[hzs]at hz hs64;have hdl:d<18446744073709551616:=by rw[hd];exact Nat.lt_of_le_of_lt (Nat.div_le_self _ _) (by omega)
   have e1: ∀ _:True,((n:Int)-1)=((n-1:Nat):Int):=fun _=>by omega
   have e2: ∀ _:True,(if s≤64 then s else 64)=s:=fun _=>by split<;>omega
   have e3: ∀ _:True,(n-1)/2^s=d:=fun _=>hd.symm
   have key:isMR n=bases12.all (strong n s d):=by
    unfold isMR;rw[if_neg h2,hf,←hs,←hd]
   rw[key];clear key hf hzs hs hd;repeat' first|simp only[go_sem,seval,e1 trivial,e2 trivial,e3 trivial]|refine cP hz ?_|refine cP hb ?_|refine sB ?_|(first|apply pX|apply bX)<;>intro hc|refine⟨oD,?_⟩|exact oD|fail
   refine loop_run (α:=Nat) (fun i=>12-i) (fun i=>⟨[(0,U n),(5,E' s),(6,U d),(32, .v (.agg bPV)),(33,E' i)],[],_⟩) (fun i=>i≤12∧bases12.all (strong n s d)=(bases12.drop i).all (strong n s d)) 0 (fun _=>Nat.le_refl _) ⟨by omega,rfl⟩ ?_ ?_
   ·exact lE
   ·rintro i ⟨hi,hf⟩ R hR
    by_cases hlt:i<12
    ·have g1:=bGet hlt;obtain⟨q0,q1⟩:=bPos hlt;rw[bDrop hlt,List.all_cons]at hf;have hR1:=hR (i+1);generalize bases12.getD i 0=q at*;have hq:q%n<n:=Nat.mod_lt _ (by omega)
     have hp:=primePow hq hdl hn;obtain⟨x,hx⟩: ∃x,x=(q%n)^d%n:=⟨_,rfl⟩;have hxl:x<n:=by rw[hx];exact Nat.mod_lt _ (by omega)
     have hst:strong n s d q=(x==1||x==n-1||sqs (s-1) x n):=by rw[hx];rfl
     rw[←hx]at hp;clear hx;repeat' first|simp only[go_sem,seval,g1,hL,e1 trivial]|refine cP hp ?_|refine sB ?_|(first|apply pX|apply bX)<;>intro hc|refine⟨oD,?_⟩|exact oD|fail
     ·have hx1:x=1:=by omega
      refine hR1 ⟨by omega,by rw[hf,hst,hx1];simp⟩ (by omega) _ ?_
      exact lE
     ·have hx1:x=n-1:=by omega
      refine hR1 ⟨by omega,by rw[hf,hst,hx1];simp⟩ (by omega) _ ?_
      exact lE
     ·have hx1:(x==1)=false:=by rw[beq_eq_false_iff_ne];omega
      have hx2:(x==n-1)=false:=by rw[beq_eq_false_iff_ne];omega
      rw[hx1,hx2,Bool.false_or,Bool.false_or]at hst;refine loop_run (α:=Nat×Nat) (fun z=>s-z.1) (fun z=>⟨[(0,U n),(5,E' s),(6,U d),(32, .v (.agg bPV)),(33,E' i),(9,U z.2),(10,E' z.1)],[],_⟩) (fun z=>1≤z.1∧z.2<n∧sqs (s-z.1) z.2 n=sqs (s-1) x n) (1,x) (fun _=>Nat.le_refl _) ⟨Nat.le_refl 1,hxl,rfl⟩ ?_ ?_
      ·exact lE
      ·rintro⟨j,y⟩ ⟨hj,hy,hz⟩ R' hR';simp only at hj hy hz;have hm:=primeMul hy hy hn;obtain⟨w,hw⟩: ∃w,w=y*y%n:=⟨_,rfl⟩;have hwl:w<n:=by rw[hw];exact Nat.mod_lt _ (by omega)
       have hz':j<s→(w==n-1||sqs (s-(j+1)) w n)=sqs (s-1) x n:=by
        intro g;rw[←hz,show s-j=s-(j+1)+1 by omega,hw];rfl
       rw[←hw]at hm;clear hw;repeat' first|simp only[go_sem,seval,e1 trivial]|refine cP hm ?_|refine sB ?_|(first|apply pX|apply bX)<;>intro hc|refine⟨oD,?_⟩|exact oD|fail
       ·have hw1:w=n-1:=by omega
        have:=hz' (by omega)
        rw[hw1,beq_self_eq_true,Bool.true_or]at this;refine hR1 ⟨by omega,by rw[hf,hst,←this,Bool.true_and]⟩ (by omega) _ ?_
        exact lE
       ·have hw1:(w==n-1)=false:=by rw[beq_eq_false_iff_ne];omega
        have:=hz' (by omega)
        rw[hw1,Bool.false_or]at this;refine hR' (j+1,w) ⟨by show 1≤j+1;omega,hwl,this⟩ (by show s-(j+1)<s-j;omega) _ ?_
        exact lE
       ·rw[hf,hst,←hz,show s-j=0 by omega];rfl
    ·obtain rfl:i=12:=by omega
     repeat' first|simp only[go_sem,seval]|refine sB ?_|(first|apply pX|apply bX)<;>intro hc|refine⟨oD,?_⟩|exact oD|fail
     rw[hf];rfl
theorem primeSmall (a:Bytes):EvP Tryz.prog 321 [.s a] (.tup [.i .u64 (if validN a&&decide (a.length≤8)then num a else 0),E (if validN a then(if a.length≤8 then 0 else 5)else 3)]):=by
 have hs:=Small_ok a;have hv:=natValid a;refine eW Tryz.call321 Tryz.func321 ?_;repeat' first|simp only[go_sem,seval]|refine cP hv ?_|refine cP hs ?_|refine sB ?_|(first|apply pX|apply bX)<;>intro hc|refine⟨oD,?_⟩|exact oD|fail
 all_goals (simp_all<;>omega)
def primeE (a:Bytes):Int:=if validN a then(if a.length≤8 then 0 else 5)else 3
theorem primeIsOk (a:Bytes):EvP Tryz.prog 197 [.s a] (.tup [.b (validN a&&decide (a.length≤8)&&isMR (num a)),E (primeE a)]):=by
 have hs:=primeSmall a
 by_cases h:validN a=true∧a.length≤8
 ·obtain⟨h1,h2⟩:=h;have e:primeE a=0:=by simp[primeE,h1,h2]
  rw[h1,decide_eq_true h2]at hs;have hi:=primeIs (num8 h2);rw[h1,decide_eq_true h2,e];refine eW Tryz.call197 Tryz.func197 ?_;repeat' first|simp only[go_sem,seval,if_true,if_pos h2]|refine cP hs ?_|refine cP hi ?_|refine sB ?_|(first|apply pX|apply bX)<;>intro hc|refine⟨oD,?_⟩|exact oD|fail
  all_goals skip
 ·have h0:(validN a&&decide (a.length≤8))=false:=by
   rw[Bool.eq_false_iff];intro g;simp at g;exact h g
  have e:primeE a≠0:=by
   unfold primeE;split
   ·rename_i g;rw[if_neg (fun g2=>h ⟨g,g2⟩)];decide
   ·decide
  rw[h0]at hs⊢;have e2:(if validN a then(if a.length≤8 then(0:Int)else 5)else 3)=primeE a:=rfl
  rw[e2]at hs;refine eW Tryz.call197 Tryz.func197 ?_;repeat' first|simp only[go_sem,seval]|refine cP hs ?_|refine sB ?_|(first|apply pX|apply bX)<;>intro hc|refine⟨oD,?_⟩|exact oD|fail
  all_goals skip
theorem primeSafe (a:Bytes):EvP Tryz.prog 205 [.s a] (.tup [.b (validN a&&decide (a.length≤8)&&isSafe (num a)),E (primeE a)]):=by
 have hs:=primeSmall a
 by_cases h:validN a=true∧a.length≤8
 ·obtain⟨h1,h2⟩:=h;have e:primeE a=0:=by simp[primeE,h1,h2]
  rw[h1,decide_eq_true h2]at hs;have hn:=num8 h2;have hi:=primeIs hn;have hj:=primeIs (n:=(num a-1)/2) (by omega)
  rw[h1,decide_eq_true h2,e]
  by_cases h0:isMR (num a)=true
  ·have hp:2≤num a:=by
    rcases Nat.lt_or_ge (num a) 2 with g|g
    ·simp[isMR,g]at h0
    ·exact g
   have e1: ∀ _:True,((num a:Int)-1)=((num a-1:Nat):Int):=fun _=>by omega
   have e3:(num a-1)/2%18446744073709551616=(num a-1)/2:=Nat.mod_eq_of_lt (by omega)
   have e4:(num a-1)%18446744073709551616=num a-1:=Nat.mod_eq_of_lt (by omega)
   rw[h0]at hi;refine eW Tryz.call205 Tryz.func205 ?_;repeat' first|simp only[go_sem,seval,if_true,if_pos h2,e1 trivial,uw,e4,e3]|refine cP hs ?_|refine cP hi ?_|refine cP hj ?_|refine sB ?_|(first|apply pX|apply bX)<;>intro hc|refine⟨oD,?_⟩|exact oD|fail
   all_goals simp[isSafe,h0]
  ·have h0:isMR (num a)=false:=by simpa using h0
   rw[h0]at hi;refine eW Tryz.call205 Tryz.func205 ?_;repeat' first|simp only[go_sem,seval,if_true,if_pos h2]|refine cP hs ?_|refine cP hi ?_|refine sB ?_|(first|apply pX|apply bX)<;>intro hc|refine⟨oD,?_⟩|exact oD|fail
   all_goals simp[isSafe,h0]
 ·have h0:(validN a&&decide (a.length≤8))=false:=by
   rw[Bool.eq_false_iff];intro g;simp at g;exact h g
  have e:primeE a≠0:=by
   unfold primeE;split
   ·rename_i g;rw[if_neg (fun g2=>h ⟨g,g2⟩)];decide
   ·decide
  rw[h0]at hs⊢;have e2:(if validN a then(if a.length≤8 then(0:Int)else 5)else 3)=primeE a:=rfl
  rw[e2]at hs;refine eW Tryz.call205 Tryz.func205 ?_;repeat' first|simp only[go_sem,seval]|refine cP hs ?_|refine sB ?_|(first|apply pX|apply bX)<;>intro hc|refine⟨oD,?_⟩|exact oD|fail
  all_goals skip
end Go.Proofs.YtmledjfbgjnknaaGreatDoor
namespace Go.Proofs.YtmledjfbgjnknaaGreatDoor
open Go Go.Dom
set_option maxRecDepth 100000
set_option maxHeartbeats 4000000
def chkE (l:List Bytes) (m:Bytes):Int:=if l.all validN&&validN m then(if m=[]then 11 else 0)else 3
theorem check1 (nm:Nat) (a m:Bytes):EvA Tryz.prog 206 nm [] [.fs [.s a], .fs [.s m]] (.v (E (chkE [a] m))) []:=by
 refine EvA.w mixed Tryz.call206 Tryz.func206 rfl (tyC.1 _ _ _ (by cbv)) (tyC.2 _ _ (by cbv)) (obs:=[]) (args:=[.fs [.s a], .fs [.s m]]) (fs:=[]) (j:=none) (nw:=none) (v:= .v (E (chkE [a] m))) (ns:=[]) (obsA:=[]) rfl ?_ (by simp) (by simp) rfl rfl (by simp[mapO,AV.ren]) (by simp[AV.ren]) (by simp[upsOf,outs])
 have va:=natValid a;have vm:=natValid m;simp only[go_sem,seval];repeat' first|simp only[go_sem,seval,true_or,or_true,false_or,or_false,Option.some.injEq,RetA,resLA,outV,outC,outO,viewC,hfV,foV,finH,finN,mkResA,mapO_outC_bcells,AV.ren,AV.ren.renL,renL_bcells,List.getD_cons_zero,List.getD_cons_succ]|refine cP va ?_|refine cP vm ?_|(refine loop_unroll' ?_)|refine sB ?_|(first|apply pX|apply bX)<;>intro hc|refine⟨oD,?_⟩|exact oD|fail
 all_goals simp_all[chkE]
theorem check2 (nm:Nat) (a b m:Bytes):EvA Tryz.prog 206 nm [] [.fs [.s a, .s b], .fs [.s m]] (.v (E (chkE [a,b] m))) []:=by
 refine EvA.w mixed Tryz.call206 Tryz.func206 rfl (tyC.1 _ _ _ (by cbv)) (tyC.2 _ _ (by cbv)) (obs:=[]) (args:=[.fs [.s a, .s b], .fs [.s m]]) (fs:=[]) (j:=none) (nw:=none) (v:= .v (E (chkE [a,b] m))) (ns:=[]) (obsA:=[]) rfl ?_ (by simp) (by simp) rfl rfl (by simp[mapO,AV.ren]) (by simp[AV.ren]) (by simp[upsOf,outs])
 have va:=natValid a;have vb:=natValid b;have vm:=natValid m;simp only[go_sem,seval];repeat' first|simp only[go_sem,seval,true_or,or_true,false_or,or_false,Option.some.injEq,RetA,resLA,outV,outC,outO,viewC,hfV,foV,finH,finN,mkResA,mapO_outC_bcells,AV.ren,AV.ren.renL,renL_bcells,List.getD_cons_zero,List.getD_cons_succ]|refine cP va ?_|refine cP vb ?_|refine cP vm ?_|(refine loop_unroll' ?_)|refine sB ?_|(first|apply pX|apply bX)<;>intro hc|refine⟨oD,?_⟩|exact oD|fail
 all_goals simp_all[chkE]
theorem chk1N {a m:Nat} (ha:a<18446744073709551616) (hm:m<18446744073709551616) (h0:0<m):chkE [bts a] (bts m)=0:=by
 have:bts m≠[]:=fun h=>by rw[bts_nil]at h;omega
 simp[chkE,vN ha,vN hm,this]
theorem chk2N {a m:Nat} {e:Bytes} (ha:a<18446744073709551616) (he:validN e=true) (hm:m<18446744073709551616) (h0:0<m):chkE [bts a,e] (bts m)=0:=by
 have:bts m≠[]:=fun h=>by rw[bts_nil]at h;omega
 simp[chkE,vN ha,he,vN hm,this]
theorem SmallN {a:Nat} (h:a<18446744073709551616):EvP Tryz.prog 201 [N a] (.tup [.i .u64 a, .b true]):=by
 have:=Small_ok (bts a);rw[vN h,decide_eq_true (lN h),num_bts]at this;exact this
theorem timesN {a b m:Nat} (ha:a<18446744073709551616) (hb:b<18446744073709551616) (hm:m<18446744073709551616) (h0:0<m):EvP Tryz.prog 207 [N a,N b,N m] (N (a*b%m)):=by
 have la:=lN ha;have lb:=lN hb;have lm:=lN hm;have h1:a%m<18446744073709551616:=Nat.lt_of_le_of_lt (Nat.mod_le _ _) ha;have h2:b%m<18446744073709551616:=Nat.lt_of_le_of_lt (Nat.mod_le _ _) hb;have hq:=Mul64_ok (a%m) (b%m) h1 h2;have h3:a%m*(b%m)/18446744073709551616<18446744073709551616:=(Nat.div_lt_iff_lt_mul (by decide)).2 (Nat.mul_lt_mul'' h1 h2)
 have hr:=Rem64_ok (a%m*(b%m)/18446744073709551616) (a%m*(b%m)%18446744073709551616) m h0 h3 (Nat.mod_lt _ (by decide)) hm
 have e:a%m*(b%m)/18446744073709551616*18446744073709551616+a%m*(b%m)%18446744073709551616=a%m*(b%m):=by omega
 rw[e,←Nat.mul_mod]at hr;have ho:=Of_ok (a*b%m) (Nat.lt_trans (Nat.mod_lt _ h0) hm);have sa:=SmallN ha;have sb:=SmallN hb;have sm:=SmallN hm;clear h3 e h1 h2;refine eW Tryz.call207 Tryz.func207 ?_;repeat' first|simp only[go_sem,seval]|refine cP sa ?_|refine cP sb ?_|refine cP sm ?_|refine cP hq ?_|refine cP hr ?_|refine cP ho ?_|refine sB ?_|(first|apply pX|apply bX)<;>intro hc|refine⟨oD,?_⟩|exact oD|fail
theorem reducedN {a m:Nat} (ha:a<18446744073709551616) (hm:m<18446744073709551616) (h0:0<m):EvP Tryz.prog 263 [N a,N m] (N (a%m)):=by
 refine eW Tryz.call263 Tryz.func263 ?_;repeat' first|simp only[go_sem,seval]|refine cP (DivModN ha hm h0) ?_|refine sB ?_|(first|apply pX|apply bX)<;>intro hc|refine⟨oD,?_⟩|exact oD|fail
theorem mMulN {a b m:Nat} (ha:a<18446744073709551616) (hb:b<18446744073709551616) (hm:m<18446744073709551616) (h0:0<m):EvP Tryz.prog 90 [N a,N b,N m] (.tup [N (a*b%m),E 0]):=by
 have hc:=fun nm=>check2 nm (bts a) (bts b) (bts m)
 rw[chk2N ha (vN hb) hm h0]at hc;refine eW Tryz.call90 Tryz.func90 ?_;repeat' first|simp only[go_sem,seval]|(refine CR_eff (hc _) (by simp) ?_)|refine cP (timesN ha hb hm h0) ?_|refine sB ?_|(first|apply pX|apply bX)<;>intro hc|refine⟨oD,?_⟩|exact oD|fail
theorem digits_ok (e:Bytes):EvP Tryz.prog 401 [.s e] (.fc 441 [] [.pt (.agg [.s e]) 0]):=by
 refine eW Tryz.call401 Tryz.func401 ?_;repeat' first|simp only[go_sem,seval]|refine sB ?_|(first|apply pX|apply bX)<;>intro hc|refine⟨oD,?_⟩|exact oD|fail
theorem digs_len (n:Nat): ∀k,∀y∈digs n k,y.length=1
 |0,y,h=>by cases h
 |k+1,y,h=>by
  rcases List.mem_cons.1 h with rfl|h
  ·rfl
  ·exact digs_len n k y h
theorem one_eq:(.s [1]:PV)=N 1:=rfl
theorem sqMod {a z m:Nat}:a^z%m*(a^z%m)%m=a^(2*z)%m:=by rw[←Nat.mul_mod,←Nat.pow_add,Nat.two_mul]
theorem sqMod1 {a z m:Nat}:a^z%m*(a^z%m)%m*(a%m)%m=a^(2*z+1)%m:=by rw[sqMod,←Nat.mul_mod,←Nat.pow_succ]
theorem ExpN {a m:Nat} {e:Bytes} (ha:a<18446744073709551616) (he:validN e=true) (hm:m<18446744073709551616) (h0:0<m):EvP Tryz.prog 323 [N a, .s e,N m] (.tup [N (a^num e%m),E 0]):=by
 have hc:=fun nm=>check2 nm (bts a) e (bts m)
 rw[chk2N ha he hm h0]at hc;have h1:=reducedN (a:=1) (by decide) hm h0
 refine eW Tryz.call323 Tryz.func323 ?_;simp only[go_sem,seval,one_eq];repeat' first|simp only[go_sem,seval,one_eq]|(refine CR_eff (hc _) (by simp) ?_)|refine cP (reducedN ha hm h0) ?_|refine cP h1 ?_|refine cP (digits_ok e) ?_|(refine CW_rng (digits_it e he) rfl (digs_len _ _) ?_)|refine sB ?_|(first|apply pX|apply bX)<;>intro hc|refine⟨oD,?_⟩|exact oD|fail
 obtain⟨n,hn⟩: ∃n,n=num e:=⟨_,rfl⟩;rw[←hn];have hbl:n/2^blen n=0:=by
  refine Nat.div_eq_of_lt ?_;unfold blen;split
  ·subst_vars;rename_i h;rw[h];decide
  ·rename_i h;exact Nat.lt_log2_self
 refine rg_run (α:=Nat) (fun k=>⟨[(3, .p 1000 0 0),(5, .p 1001 0 0),(9, .p 1019 0 0)],[(1000,⟨0,[.v (N (a%m))],false,none⟩),(1001,⟨0,[.v (N m)],false,none⟩),(1019,⟨0,[.v (N (a^(n/2^k)%m))],false,some 22⟩)],_⟩) (fun ys k=>ys=digs n k) (blen n) (fun _=>Nat.le_refl _) rfl ?_ ?_ ?_
 ·(refine AS.Le.of (by first|decide|omega) ?_ ?_<;>simp[LeT,LeH,tget,hget,AV.bd,AV.bd.bdL,u8,bd_cellsOf,bcells_bd,icells_bd])
  rw[hbl,Nat.pow_zero]
 ·intro k hk
  cases k with
  |succ k=>cases hk
  |zero=>
   repeat' first|simp only[go_sem,seval]|refine sB ?_|(first|apply pX|apply bX)<;>intro hc|refine⟨oD,?_⟩|exact oD|fail
   rw[Nat.div_one]
 ·intro y ys k hk R hR
  cases k with
  |zero=>cases hk
  |succ k=>
   simp only[digs,List.cons.injEq]at hk;obtain⟨rfl,rfl⟩:=hk;obtain⟨x,hx⟩: ∃x,x=a^(n/2^(k+1))%m:=⟨_,rfl⟩;have hxm:x<m:=by rw[hx];exact Nat.mod_lt _ h0
   have t1:=timesN (a:=x) (b:=x) (by omega) (by omega) hm h0
   have hxx:x*x%m<m:=Nat.mod_lt _ h0;have ham:a%m<m:=Nat.mod_lt _ h0;have t2:=timesN (a:=x*x%m) (b:=a%m) (by omega) (by omega) hm h0
   have hbit:=Nat.testBit_eq_decide_div_mod_eq (x:=n) (i:=k);have hdd:n/2^(k+1)=n/2^k/2:=by rw[Nat.pow_succ,Nat.div_div_eq_div_mul]
   rw[←hx,hbit];repeat' first|simp only[go_sem,seval]|refine cP t1 ?_|refine cP t2 ?_|refine sB ?_|(first|apply pX|apply bX)<;>intro hc|refine⟨oD,?_⟩|exact oD|fail
   ·have hb2:n/2^k=2*(n/2^(k+1))+1:=by omega
    refine hR k rfl _ ?_;rw[hb2,hx,sqMod1];exact lE
   ·have hb2:n/2^k=2*(n/2^(k+1)):=by omega
    refine hR k rfl _ ?_;rw[hb2,hx,sqMod];exact lE
theorem lowN {n:Nat} (h:n<18446744073709551616):EvP Tryz.prog 331 [N n] (E (n%8:Nat)):=by
 by_cases h0:n=0
 ·subst h0;refine eW Tryz.call331 Tryz.func331 ?_;repeat' first|simp only[go_sem,seval,nilT]|refine sB ?_|(first|apply pX|apply bX)<;>intro hc|refine⟨oD,?_⟩|exact oD|fail
 ·have hc:=nilF h0;have hb:=bts_canon n;have hne:bts n≠[]:=fun e=>h0 (bts_nil.1 e)
  obtain⟨r,c,hr⟩: ∃r c,bts n=r++[c]:=⟨_,_,(List.dropLast_concat_getLast hne).symm⟩;have hn:=num_bts n;rw[hr,num_snoc]at hn;have hl:(bts n).length=r.length+1:=by rw[hr];simp
  have hg:(bts n).getD r.length 0=c:=by rw[hr];simp[List.getD_eq_getElem?_getD]
  have hcl:=c.toNat_lt;have hlen:=lN h;have he: ∀ _:True,(((r.length+1:Nat):Int)-1).toNat=r.length:=fun _=>by omega
  refine eW Tryz.call331 Tryz.func331 ?_;repeat' first|simp only[go_sem,seval,hc,hl,he trivial,hg]|refine sB ?_|(first|apply pX|apply bX)<;>intro hc|refine⟨oD,?_⟩|exact oD|fail
  congr 1;omega
theorem two_eq:(.s [2]:PV)=N 2:=rfl
theorem oneF (n:Nat):(bts n==([1]:Bytes))=decide (n=1):=btsEq n 1
end Go.Proofs.YtmledjfbgjnknaaGreatDoor
namespace Go.Proofs.YtmledjfbgjnknaaGreatDoor
open Go Go.Dom Go.Num
set_option maxRecDepth 100000
set_option maxHeartbeats 4000000
theorem jac_even {a n:Nat} {s:Int} (h0:a≠0) (h2:a%2=0):jacF (a+1) a n s=jacF (a/2+1) (a/2) n (flip8 n s):=by
 rw[jacF,if_neg h0,if_pos h2];exact jacF_step (by omega) (by omega)
theorem jac_odd {a n:Nat} {s:Int} (h0:a≠0) (h2:a%2≠0):jacF (a+1) a n s=jacF (n%a+1) (n%a) a (flip4 a n s):=by
 have:n%a<a:=Nat.mod_lt _ (by omega)
 rw[jacF,if_neg h0,if_neg h2];exact jacF_step (by omega) (by omega)
theorem JacobiN {a n:Nat} (ha:a<18446744073709551616) (hn:n<18446744073709551616) (h1:n%2=1):EvP Tryz.prog 208 [N a,N n] (.tup [E (jac a n),E 0]):=by
 have hc:=fun nm=>check1 nm (bts a) (bts n)
 rw[chk1N ha hn (by omega)]at hc
 have l0:=lowN hn;have h8:n%8%2=1:=by omega
 refine eW Tryz.call208 Tryz.func208 ?_;simp only[go_sem,seval,one_eq,two_eq];repeat' first|simp only[go_sem,seval,one_eq,two_eq]|(refine CR_eff (hc _) (by simp) ?_)|refine cP l0 ?_|(refine CR_pure (reducedN ha hn (by omega)) rfl ?_)|refine sB ?_|(first|apply pX|apply bX)<;>intro hc|refine⟨oD,?_⟩|exact oD|fail
 refine loop_run (α:=Nat×Nat×Int) (fun x=>x.1) (fun x=>⟨[(0, .v (N x.1)),(1, .v (N x.2.1)),(7, .v (E x.2.2))],[],_⟩) (fun x=>x.1<18446744073709551616∧x.2.1<18446744073709551616∧0<x.2.1∧(x.2.2=1∨x.2.2= -1)∧jacF (x.1+1) x.1 x.2.1 x.2.2=jac a n) (a%n,n,1) (fun _=>Nat.le_refl _) ⟨Nat.lt_of_le_of_lt (Nat.mod_le _ _) ha,hn,by show 0<n;omega, .inl rfl,rfl⟩ ?_ ?_
 ·exact lE
 ·rintro⟨x,y,s⟩ ⟨hx,hy,hy0,hs,hj⟩ R hR;simp only at hx hy hy0 hs hj
  by_cases hx0:x=0
  ·subst hx0;have e:=oneF y;repeat' first|simp only[go_sem,seval,nilT,one_eq,e]|refine sB ?_|(first|apply pX|apply bX)<;>intro hc|refine⟨oD,?_⟩|exact oD|fail
   ·simp[bts_inj]at hc;rw[←hj];simp only[jacF,if_true];rw[if_pos hc]
   ·simp[bts_inj]at hc;rw[←hj];simp only[jacF,if_true];rw[if_neg hc]
  ·have e:=nilF hx0;have ly:=lowN hy;repeat' first|simp only[go_sem,seval,e]|refine sB ?_|(first|apply pX|apply bX)<;>intro hc|refine⟨oD,?_⟩|exact oD|fail
   refine loop_run (α:=Nat×Int) (fun z=>z.1) (fun z=>⟨[(0, .v (N z.1)),(1, .v (N y)),(7, .v (E z.2))],[],_⟩) (fun z=>z.1≤x∧z.1≠0∧(z.2=1∨z.2= -1)∧jacF (z.1+1) z.1 y z.2=jac a n) (x,s) (fun _=>Nat.le_refl _) ⟨Nat.le_refl _,hx0,hs,hj⟩ ?_ ?_
   ·exact lE
   ·rintro⟨z,t⟩ ⟨hz,hz0,ht,hk⟩ R' hR';simp only at hz hz0 ht hk;have lz:=lowN (n:=z) (by omega)
    have hd:=DivModN (a:=z) (b:=2) (by omega) (by decide) (by decide)
    have hw: ∀ _:True,IntKind.i64.wrap (0-t)= -t:=fun _=>by rw[IntWalk.i64_in _ (by omega)];omega
    have hr:=reducedN (a:=y) (m:=z) hy (by omega) (by omega)
    have hlt:y%z<z:=Nat.mod_lt _ (by omega)
    repeat' first|simp only[go_sem,seval,two_eq,hw trivial]|refine cP lz ?_|refine cP ly ?_|refine cP hd ?_|refine cP hr ?_|refine sB ?_|(first|apply pX|apply bX)<;>intro hc|refine⟨oD,?_⟩|exact oD|fail
    ·have hf:flip8 y t= -t:=by unfold flip8;rw[if_pos (by omega)]
     refine hR' (z/2,-t) ⟨by show z/2≤x;omega,by show z/2≠0;omega,by show-t=1∨ -t= -1;omega,by rw[←hk,jac_even hz0 (by omega),hf]⟩ (by show z/2<z;omega) _ ?_
     exact lE
    ·have hf:flip8 y t= -t:=by unfold flip8;rw[if_pos (by omega)]
     refine hR' (z/2,-t) ⟨by show z/2≤x;omega,by show z/2≠0;omega,by show-t=1∨ -t= -1;omega,by rw[←hk,jac_even hz0 (by omega),hf]⟩ (by show z/2<z;omega) _ ?_
     exact lE
    ·have hf:flip8 y t=t:=by unfold flip8;rw[if_neg (by omega)]
     refine hR' (z/2,t) ⟨by show z/2≤x;omega,by show z/2≠0;omega,ht,by rw[←hk,jac_even hz0 (by omega),hf]⟩ (by show z/2<z;omega) _ ?_
     exact lE
    ·have hf:flip4 z y t= -t:=by unfold flip4;rw[if_pos (by omega)]
     refine hR (y%z,z,-t) ⟨by show y%z< _;omega,by show z< _;omega,by show 0<z;omega,by show-t=1∨ -t= -1;omega,by rw[←hk,jac_odd hz0 (by omega),hf]⟩ (by show y%z<x;omega) _ ?_
     exact lE
    ·have hf:flip4 z y t=t:=by unfold flip4;rw[if_neg (by omega)]
     refine hR (y%z,z,t) ⟨by show y%z< _;omega,by show z< _;omega,by show 0<z;omega,ht,by rw[←hk,jac_odd hz0 (by omega),hf]⟩ (by show y%z<x;omega) _ ?_
     exact lE
    ·have hf:flip4 z y t=t:=by unfold flip4;rw[if_neg (by omega)]
     refine hR (y%z,z,t) ⟨by show y%z< _;omega,by show z< _;omega,by show 0<z;omega,ht,by rw[←hk,jac_odd hz0 (by omega),hf]⟩ (by show y%z<x;omega) _ ?_
     exact lE
end Go.Proofs.YtmledjfbgjnknaaGreatDoor
