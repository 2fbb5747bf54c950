/-
  Part of the proof, part Z27. Own work.
-/
import Derived.Test.YtmobkhegihemeaaGreatDoorZ26
set_option linter.all false
namespace Go.Proofs.YtmobkhegihemeaaGreatDoor
open Go Go.Dom Go.Num
set_option maxRecDepth 100000
set_option maxHeartbeats 4000000
def KU:List PV:=bI.map fun p:Nat=> .i .u64 (p:Int)
theorem y7:aA Tryz.prog 131 [] (.agg KU):=by
 refine eW Tryz.call131 Tryz.func131 ?_;repeat' first|simp only[go_sem,seval]|refine sB ?_|(first|apply pX|apply bX)<;>intro hc|refine⟨oD,?_⟩|exact oD|fail
 rfl
theorem qx {a b m:Nat} (ha:a<m) (hb:b<m) (hm:m<18446744073709551616):aA Tryz.prog 134 [.i .u64 a, .i .u64 b, .i .u64 m] (.i .u64 (a*b%m:Nat)):=by
 have h1:=l9 a b (by omega) (by omega)
 have hp:a*b<m*18446744073709551616:=Nat.lt_of_lt_of_le (Nat.mul_lt_mul_of_lt_of_le ha (Nat.le_of_lt hb) (by omega)) (Nat.mul_le_mul_left m (by omega))
 have h2:a*b/18446744073709551616<m:=(Nat.div_lt_iff_lt_mul (by decide)).2 hp
 have h3:=wu (a*b/18446744073709551616) (a*b%18446744073709551616) m h2 (Nat.mod_lt _ (by decide)) hm
 have e:a*b/18446744073709551616*18446744073709551616+a*b%18446744073709551616=a*b:=by omega
 rw[e]at h3;refine eW Tryz.call134 Tryz.func134 ?_;repeat' first|simp only[go_sem,seval]|refine cP h1 ?_|refine cP h3 ?_|refine sB ?_|(first|apply pX|apply bX)<;>intro hc|refine⟨oD,?_⟩|exact oD|fail
theorem AM (b k m:Nat):(b*b%m)^(k/2)%m=b^(2*(k/2))%m:=by rw[←Nat.pow_mod,←Nat.pow_two,←Nat.pow_mul]
theorem Mk {x b k m:Nat} (h:k%2=1):x*b%m*(b*b%m)^(k/2)%m=x*b^k%m:=by
 rw[Nat.mul_mod,AM,Nat.mod_mod,←Nat.mul_mod,Nat.mul_assoc,←Nat.pow_succ'];congr 3;omega
theorem JB {x b k m:Nat} (h:k%2=0):x*(b*b%m)^(k/2)%m=x*b^k%m:=by
 rw[Nat.mul_mod,AM,←Nat.mul_mod];congr 3;omega
theorem EU {a e m:Nat} (ha:a<m) (he:e<18446744073709551616) (hm:m<18446744073709551616):aA Tryz.prog 133 [.i .u64 a, .i .u64 e, .i .u64 m] (.i .u64 (a^e%m:Nat)):=by
 refine eW Tryz.call133 Tryz.func133 ?_;repeat' first|simp only[go_sem,seval]|refine sB ?_|(first|apply pX|apply bX)<;>intro hc|refine⟨oD,?_⟩|exact oD|fail
 refine ai (α:=Nat×Nat×Nat) (fun x=>x.2.1) (fun x=>⟨[(0,U x.1),(1,U x.2.1),(2,U m),(7,U x.2.2)],[],_⟩) (fun x=>x.1<m∧x.2.1<18446744073709551616∧x.2.2<m∧x.2.2*x.1^x.2.1%m=a^e%m) (a,e,1%m) (fun _=>Nat.le_refl _) ⟨ha,he,Nat.mod_lt _ (by omega),by show 1%m*a^e%m= _;rw[Nat.mul_mod,Nat.mod_mod,←Nat.mul_mod,Nat.one_mul]⟩ ?_ ?_
 ·(refine AS.Le.of (by first|decide|omega) ?_ ?_<;>simp[bz,bA,aD,ak,AV.bd,AV.bd.bdL,u8,af,ah,aj])
  rfl
 ·rintro⟨b,k,x⟩ ⟨h1,h2,h3,h4⟩ R hR;simp only at h1 h2 h3 h4;have hs:=qx h1 h1 hm;have hx:=qx h3 h1 hm;have hk:k/2<18446744073709551616:=by omega
  repeat' first|simp only[go_sem,seval,uw,Nat.mod_eq_of_lt hk]|refine cP hs ?_|refine cP hx ?_|refine sB ?_|(first|apply pX|apply bX)<;>intro hc|refine⟨oD,?_⟩|exact oD|fail
  ·refine hR (b*b%m,k/2,x*b%m) ⟨Nat.mod_lt _ (by omega),hk,Nat.mod_lt _ (by omega),?_⟩ (by show k/2<k;omega) _ ?_
   ·show x*b%m*(b*b%m)^(k/2)%m= _;rw[Mk (by omega),h4]
   ·exact lE
  ·refine hR (b*b%m,k/2,x) ⟨Nat.mod_lt _ (by omega),hk,h3,?_⟩ (by show k/2<k;omega) _ ?_
   ·show x*(b*b%m)^(k/2)%m= _;rw[JB (by omega),h4]
   ·exact lE
  ·obtain rfl:k=0:=by omega
   rw[←h4,Nat.pow_zero,Nat.mul_one,Nat.mod_eq_of_lt h3]
theorem KL: ∀f x,Lib.ctzFrom f x=Ow f x
 |0,x=>rfl
 |f+1,x=>by simp only[Lib.ctzFrom,Ow,KL f (x/2)];split<;>omega
theorem P9 {i:Nat} (h:i<12):(List.map AV.v KU).getD i .u=U (bI.getD i 0):=by
 have: ∀i:Fin 12,(List.map AV.v KU).getD i.val .u=U (bI.getD i.val 0):=by
  intro i;rcases i with⟨i,hi⟩
  have h2:i<bI.length:=hi;simp[KU,List.getD_eq_getElem?_getD,h2]
 exact this ⟨i,h⟩
theorem PD {i:Nat} (h:i<12):0<bI.getD i 0∧bI.getD i 0<38:=by
 have: ∀i:Fin 12,0<bI.getD i.val 0∧bI.getD i.val 0<38:=by decide
 exact this ⟨i,h⟩
theorem KN {i:Nat} (h:i<12):bI.drop i=bI.getD i 0::bI.drop (i+1):=by
 have h2:i<bI.length:=h;rw[List.drop_eq_getElem_cons h2,List.getD_eq_getElem?_getD,List.getElem?_eq_getElem h2];rfl
theorem H9 {n:Nat} (hn:n<18446744073709551616):aA Tryz.prog 76 [.i .u64 n] (.b (cX n)):=by
 by_cases h2:n<2
 ·have e:cX n=false:=by simp[cX,h2]
  rw[e];refine eW Tryz.call76 Tryz.func76 ?_;repeat' first|simp only[go_sem,seval]|refine sB ?_|(first|apply pX|apply bX)<;>intro hc|refine⟨oD,?_⟩|exact oD|fail
 have hb:=y7;have hL:(List.map AV.v KU).length=12:=rfl;refine eW Tryz.call76 Tryz.func76 ?_;repeat' first|simp only[go_sem,seval]|refine cP hb ?_|refine sB ?_|(first|apply pX|apply bX)<;>intro hc|refine⟨oD,?_⟩|exact oD|fail
 refine ai (α:=Nat) (fun i=>12-i) (fun i=>⟨[(0,U n),(13, .v (.agg KU)),(14,E' i)],[],_⟩) (fun i=>i≤12∧bI.find? (fun p=>n%p==0)=(bI.drop i).find? (fun p=>n%p==0)) 0 (fun _=>Nat.le_refl _) ⟨by omega,rfl⟩ ?_ ?_
 ·exact lE
 ·rintro i ⟨hi,hf⟩ R hR
  by_cases hlt:i<12
  ·have g1:=P9 hlt;obtain⟨q0,q1⟩:=PD hlt;rw[KN hlt]at hf;generalize bI.getD i 0=q at*;repeat' first|simp only[go_sem,seval,g1,hL]|refine sB ?_|(first|apply pX|apply bX)<;>intro hc|refine⟨oD,?_⟩|exact oD|fail
   ·have hz:(n%q==0)=true:=by rw[beq_iff_eq];omega
    rw[List.find?_cons,hz]at hf;unfold cX;rw[if_neg h2,hf];congr 1;rw[Bool.eq_iff_iff];simp only[beq_iff_eq];omega
   ·have hz:(n%q==0)=false:=by rw[beq_eq_false_iff_ne];omega
    rw[List.find?_cons,hz]at hf;refine hR (i+1) ⟨by omega,hf⟩ (by omega) _ ?_
    exact lE
  ·obtain rfl:i=12:=by omega
   have hf:bI.find? (fun p=>n%p==0)=none:=hf
   obtain⟨s,hs⟩: ∃s,s=Ow 64 (n-1):=⟨_,rfl⟩;obtain⟨d,hd⟩: ∃d,d=(n-1)/2^s:=⟨_,rfl⟩;have hz:=kW (n-1) (by omega) (by omega)
   have hs64:=(Lib.lowest_bit 64 (n-1) (by omega) (by show n-1<18446744073709551616;omega)).2
   have hzs:Lib.ctz 64 (n-1)=s:=by rw[Lib.ctz,if_neg (by omega),KL,hs]
   rw[hzs]at hz hs64;have hdl:d<18446744073709551616:=by rw[hd];exact Nat.lt_of_le_of_lt (Nat.div_le_self _ _) (by omega)
   have e1: ∀ _:True,((n:Int)-1)=((n-1:Nat):Int):=fun _=>by omega
   have e2: ∀ _:True,(if s≤64 then s else 64)=s:=fun _=>by split<;>omega
   have e3: ∀ _:True,(n-1)/2^s=d:=fun _=>hd.symm
   have key:cX n=bI.all (rH n s d):=by
    unfold cX;rw[if_neg h2,hf,←hs,←hd]
   rw[key];clear key hf hzs hs hd;repeat' first|simp only[go_sem,seval,e1 trivial,e2 trivial,e3 trivial]|refine cP hz ?_|refine cP hb ?_|refine sB ?_|(first|apply pX|apply bX)<;>intro hc|refine⟨oD,?_⟩|exact oD|fail
   refine ai (α:=Nat) (fun i=>12-i) (fun i=>⟨[(0,U n),(5,E' s),(6,U d),(32, .v (.agg KU)),(33,E' i)],[],_⟩) (fun i=>i≤12∧bI.all (rH n s d)=(bI.drop i).all (rH n s d)) 0 (fun _=>Nat.le_refl _) ⟨by omega,rfl⟩ ?_ ?_
   ·exact lE
   ·rintro i ⟨hi,hf⟩ R hR
    by_cases hlt:i<12
    ·have g1:=P9 hlt;obtain⟨q0,q1⟩:=PD hlt;rw[KN hlt,List.all_cons]at hf;have hR1:=hR (i+1);generalize bI.getD i 0=q at*;have hq:q%n<n:=Nat.mod_lt _ (by omega)
     have hp:=EU hq hdl hn;obtain⟨x,hx⟩: ∃x,x=(q%n)^d%n:=⟨_,rfl⟩;have hxl:x<n:=by rw[hx];exact Nat.mod_lt _ (by omega)
     have hst:rH n s d q=(x==1||x==n-1||Lv (s-1) x n):=by rw[hx];rfl
     rw[←hx]at hp;clear hx;repeat' first|simp only[go_sem,seval,g1,hL,e1 trivial]|refine cP hp ?_|refine sB ?_|(first|apply pX|apply bX)<;>intro hc|refine⟨oD,?_⟩|exact oD|fail
     ·have hx1:x=1:=by omega
      refine hR1 ⟨by omega,by rw[hf,hst,hx1];simp⟩ (by omega) _ ?_
      exact lE
     ·have hx1:x=n-1:=by omega
      refine hR1 ⟨by omega,by rw[hf,hst,hx1];simp⟩ (by omega) _ ?_
      exact lE
     ·have hx1:(x==1)=false:=by rw[beq_eq_false_iff_ne];omega
      have hx2:(x==n-1)=false:=by rw[beq_eq_false_iff_ne];omega
      rw[hx1,hx2,Bool.false_or,Bool.false_or]at hst;refine ai (α:=Nat×Nat) (fun z=>s-z.1) (fun z=>⟨[(0,U n),(5,E' s),(6,U d),(32, .v (.agg KU)),(33,E' i),(9,U z.2),(10,E' z.1)],[],_⟩) (fun z=>1≤z.1∧z.2<n∧Lv (s-z.1) z.2 n=Lv (s-1) x n) (1,x) (fun _=>Nat.le_refl _) ⟨Nat.le_refl 1,hxl,rfl⟩ ?_ ?_
      ·exact lE
      ·rintro⟨j,y⟩ ⟨hj,hy,hz⟩ R' hR';simp only at hj hy hz;have hm:=qx hy hy hn;obtain⟨w,hw⟩: ∃w,w=y*y%n:=⟨_,rfl⟩;have hwl:w<n:=by rw[hw];exact Nat.mod_lt _ (by omega)
       have hz':j<s→(w==n-1||Lv (s-(j+1)) w n)=Lv (s-1) x n:=by
        intro g;rw[←hz,show s-j=s-(j+1)+1 by omega,hw];rfl
       rw[←hw]at hm;clear hw;repeat' first|simp only[go_sem,seval,e1 trivial]|refine cP hm ?_|refine sB ?_|(first|apply pX|apply bX)<;>intro hc|refine⟨oD,?_⟩|exact oD|fail
       ·have hw1:w=n-1:=by omega
        have:=hz' (by omega)
        rw[hw1,beq_self_eq_true,Bool.true_or]at this;refine hR1 ⟨by omega,by rw[hf,hst,←this,Bool.true_and]⟩ (by omega) _ ?_
        exact lE
       ·have hw1:(w==n-1)=false:=by rw[beq_eq_false_iff_ne];omega
        have:=hz' (by omega)
        rw[hw1,Bool.false_or]at this;refine hR' (j+1,w) ⟨by show 1≤j+1;omega,hwl,this⟩ (by show s-(j+1)<s-j;omega) _ ?_
        exact lE
       ·rw[hf,hst,←hz,show s-j=0 by omega];rfl
    ·obtain rfl:i=12:=by omega
     repeat' first|simp only[go_sem,seval]|refine sB ?_|(first|apply pX|apply bX)<;>intro hc|refine⟨oD,?_⟩|exact oD|fail
     rw[hf];rfl
theorem za (a:Bytes):aA Tryz.prog 75 [.s a] (.tup [.i .u64 (if aa a&&decide (a.length≤8)then num a else 0),E (if aa a then(if a.length≤8 then 0 else 5)else 3)]):=by
 have hs:=iY a;have hv:=aG a;refine eW Tryz.call75 Tryz.func75 ?_;repeat' first|simp only[go_sem,seval]|refine cP hv ?_|refine cP hs ?_|refine sB ?_|(first|apply pX|apply bX)<;>intro hc|refine⟨oD,?_⟩|exact oD|fail
 all_goals (simp_all<;>omega)
def eT (a:Bytes):Int:=if aa a then(if a.length≤8 then 0 else 5)else 3
theorem tG (a:Bytes):aA Tryz.prog 29 [.s a] (.tup [.b (aa a&&decide (a.length≤8)&&cX (num a)),E (eT a)]):=by
 have hs:=za a
 by_cases h:aa a=true∧a.length≤8
 ·obtain⟨h1,h2⟩:=h;have e:eT a=0:=by simp[eT,h1,h2]
  rw[h1,decide_eq_true h2]at hs;have hi:=H9 (cv h2);rw[h1,decide_eq_true h2,e];refine eW Tryz.call29 Tryz.func29 ?_;repeat' first|simp only[go_sem,seval,if_true,if_pos h2]|refine cP hs ?_|refine cP hi ?_|refine sB ?_|(first|apply pX|apply bX)<;>intro hc|refine⟨oD,?_⟩|exact oD|fail
  all_goals skip
 ·have h0:(aa a&&decide (a.length≤8))=false:=by
   rw[Bool.eq_false_iff];intro g;simp at g;exact h g
  have e:eT a≠0:=by
   unfold eT;split
   ·rename_i g;rw[if_neg (fun g2=>h ⟨g,g2⟩)];decide
   ·decide
  rw[h0]at hs⊢;have e2:(if aa a then(if a.length≤8 then(0:Int)else 5)else 3)=eT a:=rfl
  rw[e2]at hs;refine eW Tryz.call29 Tryz.func29 ?_;repeat' first|simp only[go_sem,seval]|refine cP hs ?_|refine sB ?_|(first|apply pX|apply bX)<;>intro hc|refine⟨oD,?_⟩|exact oD|fail
  all_goals skip
abbrev G (m o:Bytes):PV:= .agg [.s m, .s o]
theorem dt {a:Bytes} (h:aa a=true):N (num a)= .s a:=congrArg PV.s (dT h)
def eA (m o:Bytes):Bool:=aa m&&o==[]&&(num m).testBit 0&&decide (8<num m)
theorem So:aA Tryz.prog 31 [.i .u64 8] (.s [8]):=gi 8 (by decide)
theorem l8:aA Tryz.prog 31 [.i .u64 1] (.s [1]):=gi 1 (by decide)
theorem OM:aA Tryz.prog 31 [.i .u64 2] (.s [2]):=gi 2 (by decide)
theorem Jr (m o:Bytes):aA Tryz.prog 214 [G m o] (.b (eA m o)):=by
 have hv:=aG m
 by_cases h:aa m=true
 ·have hb:=ri h 0 (by decide)
  have hcm:=ie m [8];rw[h]at hv;rw[h,show aa [8]=true from rfl,show num [8]=8 from rfl]at hcm
  have he:aO (num m) 8>0↔8<num m:=by unfold aO;split<;>(try split)<;>omega
  refine eW Tryz.call214 Tryz.func214 ?_;repeat' first|simp only[go_sem,seval]|refine cP hv ?_|refine cP hb ?_|refine cP So ?_|refine cP hcm ?_|refine sB ?_|(first|apply pX|apply bX)<;>intro hc|refine⟨oD,?_⟩|exact oD|fail
  all_goals simp_all[eA]
 ·have h:aa m=false:=by simpa using h
  rw[h]at hv;have e:eA m o=false:=by simp[eA,h]
  rw[e];refine eW Tryz.call214 Tryz.func214 ?_;repeat' first|simp only[go_sem,seval]|refine cP hv ?_|refine sB ?_|(first|apply pX|apply bX)<;>intro hc|refine⟨oD,?_⟩|exact oD|fail
theorem IC:aA Tryz.prog 216 [] (N 1):=by
 refine eW Tryz.call216 Tryz.func216 ?_;repeat' first|simp only[go_sem,seval]|refine cP l8 ?_|refine sB ?_|(first|apply pX|apply bX)<;>intro hc|refine⟨oD,?_⟩|exact oD|fail
 all_goals rfl
def qN (m o x:Bytes):Bool:=eA m o&&aa x&& !(x==[])&&decide (num x<num m)&&decide (Nat.gcd (num x) (num m)=1)
theorem pO (a b:Nat):(aO a b≥0)=(b≤a):=by
 unfold aO;rw[eq_iff_iff];split<;>(try split)<;>omega
theorem HW {m:Bytes} (lm:m.length≤8) (o x:Bytes):aA Tryz.prog 137 [G m o, .s x] (.b (qN m o x)):=by
 have hg:=Jr m o;have hv:=aG x
 by_cases h:eA m o=true∧aa x=true∧x≠[]∧num x<num m
 ·obtain⟨h1,h2,h3,h4⟩:=h;have hm:aa m=true:=by simp[eA]at h1;exact h1.1.1.1
  have hcm:=ie x m;rw[h2,hm]at hcm;have hnm:=cv lm;have hgc:=RT (a:=num x) (b:=num m) (by omega) hnm
  rw[dt h2,dt hm]at hgc;rw[h1]at hg;rw[h2]at hv;have hx:(x==([]:Bytes))=false:=by simpa using h3
  have hlt: ¬aO (num x) (num m)≥0:=by rw[pO];omega
  have e:qN m o x=decide (Nat.gcd (num x) (num m)=1):=by simp[qN,h1,h2,h4];intro;exact h3
  rw[e];refine eW Tryz.call137 Tryz.func137 ?_;repeat' first|simp only[go_sem,seval,hx,oM]|refine cP hg ?_|refine cP hv ?_|refine cP hcm ?_|refine cP hgc ?_|refine cP IC ?_|refine sB ?_|(first|apply pX|apply bX)<;>intro hc|refine⟨oD,?_⟩|exact oD|fail
  all_goals skip
 ·have e:qN m o x=false:=by
   rw[Bool.eq_false_iff];intro g;simp[qN]at g;exact h ⟨g.1.1.1.1,g.1.1.1.2,g.1.1.2,g.1.2⟩
  have hcm:=ie x m;rw[e]
  by_cases h1:eA m o=true
  ·have hm:aa m=true:=by simp[eA]at h1;exact h1.1.1.1
   rw[h1]at hg
   by_cases h2:aa x=true
   ·rw[h2]at hv;rw[h2,hm]at hcm
    by_cases h3:x=[]
    ·subst h3;refine eW Tryz.call137 Tryz.func137 ?_;repeat' first|simp only[go_sem,seval,nn]|refine cP hg ?_|refine cP hv ?_|refine sB ?_|(first|apply pX|apply bX)<;>intro hc|refine⟨oD,?_⟩|exact oD|fail
    ·have hx:(x==([]:Bytes))=false:=by simpa using h3
     have hge:aO (num x) (num m)≥0:=by rw[pO];exact Nat.le_of_not_lt fun g=>h ⟨h1,h2,h3,g⟩
     refine eW Tryz.call137 Tryz.func137 ?_;repeat' first|simp only[go_sem,seval,hx]|refine cP hg ?_|refine cP hv ?_|refine cP hcm ?_|refine sB ?_|(first|apply pX|apply bX)<;>intro hc|refine⟨oD,?_⟩|exact oD|fail
     all_goals skip
   ·have h2:aa x=false:=by simpa using h2
    rw[h2]at hv;refine eW Tryz.call137 Tryz.func137 ?_;repeat' first|simp only[go_sem,seval]|refine cP hg ?_|refine cP hv ?_|refine sB ?_|(first|apply pX|apply bX)<;>intro hc|refine⟨oD,?_⟩|exact oD|fail
  ·have h1:eA m o=false:=by simpa using h1
   rw[h1]at hg;refine eW Tryz.call137 Tryz.func137 ?_;repeat' first|simp only[go_sem,seval]|refine cP hg ?_|refine sB ?_|(first|apply pX|apply bX)<;>intro hc|refine⟨oD,?_⟩|exact oD|fail
structure Ta (m o p q:Bytes):Prop where
 vm:aa m=true
 vp:aa p=true
 vq:aa q=true
 lp:p.length≤8
 lq:q.length≤8
 o:o=[]
 mul:num m=num p*num q
 odd:num m%2=1
 sp:Ep (num p)=true
 sq:Ep (num q)=true
 ne:num p≠num q
theorem pj (n:Bool) (a:Bytes):aA Tryz.prog 99 [.b n, .s a] (.agg [.b (n&& !(a==[])), .s a]):=by
 refine eW Tryz.call99 Tryz.func99 ?_;repeat' first|simp only[go_sem,seval]|refine sB ?_|(first|apply pX|apply bX)<;>intro hc|refine⟨oD,?_⟩|exact oD|fail
 all_goals simp_all
theorem dI (n:Bool) (a:Bytes):aA Tryz.prog 171 [.agg [.b n, .s a]] (.b (aa a&& !(n&&a==[]))):=by
 have hv:=aG a;refine eW Tryz.call171 Tryz.func171 ?_;repeat' first|simp only[go_sem,seval]|refine cP hv ?_|refine sB ?_|(first|apply pX|apply bX)<;>intro hc|refine⟨oD,?_⟩|exact oD|fail
 all_goals simp_all
theorem kz {a:Bytes} (h:aa a=true):aA Tryz.prog 47 [.s a] (.agg [.b false, .s a]):=by
 have hv:=aG a;rw[h]at hv;refine eW Tryz.call47 Tryz.func47 ?_;repeat' first|simp only[go_sem,seval]|refine cP hv ?_|refine cP (pj _ _) ?_|refine sB ?_|(first|apply pX|apply bX)<;>intro hc|refine⟨oD,?_⟩|exact oD|fail
 all_goals simp_all
theorem Cu (m o:Bytes):aA Tryz.prog 54 [G m o] (.b (aa m&&aa o)):=by
 have v1:=aG m;have v2:=aG o;refine eW Tryz.call54 Tryz.func54 ?_;repeat' first|simp only[go_sem,seval]|refine cP v1 ?_|refine cP v2 ?_|refine sB ?_|(first|apply pX|apply bX)<;>intro hc|refine⟨oD,?_⟩|exact oD|fail
 all_goals simp_all
theorem RV {a b:Nat} (ha:a<18446744073709551616) (hb:b<18446744073709551616):aA Tryz.prog 94 [N a,N b] (.tup [if b≤a then N (a-b)else .s [],E (if b≤a then 0 else 2)]):=by
 have:=FZ (aI a) (aI b);simp only[nK,vN ha,vN hb,Bool.and_self,if_true,aE]at this
 by_cases h:b≤a
 ·simp only[h,if_true]at this⊢;exact this
 ·simp only[h,if_false]at this⊢;exact this
def Sg (m o:Bytes):Int:=if !(aa m&&aa o)then 3 else if 8<m.length then 5 else if !cX (num m)then 12 else if 8<o.length then 13 else if !cX (num o)then 12 else if(num m-1)%num o=0 then 0 else 13
def gU (m o x:Bytes):Bool:=aa m&&aa o&&aa x&& !(o==[])&& !(x==[])&&decide (num x<num m)&&decide (num x^num o%num m=1%num m)
theorem Gq {m:Bytes} (lm:m.length≤8) (o x:Bytes):aA Tryz.prog 56 [G m o, .s x] (.b (gU m o x)):=by
 have hf:=Cu m o;have vx:=aG x;have hcm:=ie x m
 by_cases h:aa m=true∧aa o=true∧aa x=true∧o≠[]∧x≠[]∧num x<num m
 ·obtain⟨v1,v2,v3,h4,h5,h6⟩:=h;have e4:(o==([]:Bytes))=false:=by simpa using h4
  have e5:(x==([]:Bytes))=false:=by simpa using h5
  have hn:=cv lm;have hE:=PF (a:=num x) (m:=num m) (e:=o) (by omega) v2 hn (by omega)
  have hE0:=PF (a:=num x) (m:=num m) (e:=[]) (by omega) rfl hn (by omega)
  rw[dt v3,dt v1]at hE hE0;rw[show num ([]:Bytes)=0 from rfl,Nat.pow_zero]at hE0
  rw[v1,v2]at hf;rw[v3]at vx;rw[v3,v1]at hcm;have hlt: ¬aO (num x) (num m)≥0:=by rw[pO];omega
  have e:gU m o x=decide (num x^num o%num m=1%num m):=by simp[gU,v1,v2,v3,e4,e5,h6]
  rw[e];generalize num x^num o%num m=z1 at*;generalize 1%num m=z2 at*;refine eW Tryz.call56 Tryz.func56 ?_;repeat' first|simp only[go_sem,seval,e4,e5,oM]|refine cP hf ?_|refine cP vx ?_|refine cP hcm ?_|refine cP hE ?_|refine cP hE0 ?_|refine sB ?_|(first|apply pX|apply bX)<;>intro hc|refine⟨oD,?_⟩|exact oD|fail
  all_goals simp_all
 ·have e:gU m o x=false:=by
   rw[Bool.eq_false_iff];intro g;simp[gU]at g;exact h ⟨g.1.1.1.1.1.1,g.1.1.1.1.1.2,g.1.1.1.1.2,g.1.1.1.2,g.1.1.2,g.1.2⟩
  rw[e]
  by_cases v1:aa m=true<;>by_cases v2:aa o=true<;>by_cases v3:aa x=true
  ·rw[v1,v2]at hf;rw[v3]at vx;rw[v3,v1]at hcm
   by_cases h4:o=[]
   ·subst h4;refine eW Tryz.call56 Tryz.func56 ?_;repeat' first|simp only[go_sem,seval,nn]|refine cP hf ?_|refine cP vx ?_|refine sB ?_|(first|apply pX|apply bX)<;>intro hc|refine⟨oD,?_⟩|exact oD|fail
   ·have e4:(o==([]:Bytes))=false:=by simpa using h4
    by_cases h5:x=[]
    ·subst h5;refine eW Tryz.call56 Tryz.func56 ?_;repeat' first|simp only[go_sem,seval,nn,e4]|refine cP hf ?_|refine cP vx ?_|refine sB ?_|(first|apply pX|apply bX)<;>intro hc|refine⟨oD,?_⟩|exact oD|fail
    ·have e5:(x==([]:Bytes))=false:=by simpa using h5
     have hge:aO (num x) (num m)≥0:=by rw[pO];exact Nat.le_of_not_lt fun g=>h ⟨v1,v2,v3,h4,h5,g⟩
     refine eW Tryz.call56 Tryz.func56 ?_;repeat' first|simp only[go_sem,seval,e4,e5]|refine cP hf ?_|refine cP vx ?_|refine cP hcm ?_|refine sB ?_|(first|apply pX|apply bX)<;>intro hc|refine⟨oD,?_⟩|exact oD|fail
  all_goals simp only[Bool.not_eq_true]at v1 v2 v3
  all_goals simp only[v1,v2,Bool.and_true,Bool.and_false,Bool.and_self,Bool.true_and,Bool.false_and]at hf
  all_goals simp only[v3]at vx
  ·refine eW Tryz.call56 Tryz.func56 ?_;repeat' first|simp only[go_sem,seval]|refine cP hf ?_|refine cP vx ?_|refine sB ?_|(first|apply pX|apply bX)<;>intro hc|refine⟨oD,?_⟩|exact oD|fail
  ·refine eW Tryz.call56 Tryz.func56 ?_;repeat' first|simp only[go_sem,seval]|refine cP hf ?_|refine cP vx ?_|refine sB ?_|(first|apply pX|apply bX)<;>intro hc|refine⟨oD,?_⟩|exact oD|fail
  ·refine eW Tryz.call56 Tryz.func56 ?_;repeat' first|simp only[go_sem,seval]|refine cP hf ?_|refine cP vx ?_|refine sB ?_|(first|apply pX|apply bX)<;>intro hc|refine⟨oD,?_⟩|exact oD|fail
  ·refine eW Tryz.call56 Tryz.func56 ?_;repeat' first|simp only[go_sem,seval]|refine cP hf ?_|refine cP vx ?_|refine sB ?_|(first|apply pX|apply bX)<;>intro hc|refine⟨oD,?_⟩|exact oD|fail
  ·refine eW Tryz.call56 Tryz.func56 ?_;repeat' first|simp only[go_sem,seval]|refine cP hf ?_|refine cP vx ?_|refine sB ?_|(first|apply pX|apply bX)<;>intro hc|refine⟨oD,?_⟩|exact oD|fail
  ·refine eW Tryz.call56 Tryz.func56 ?_;repeat' first|simp only[go_sem,seval]|refine cP hf ?_|refine cP vx ?_|refine sB ?_|(first|apply pX|apply bX)<;>intro hc|refine⟨oD,?_⟩|exact oD|fail
  ·refine eW Tryz.call56 Tryz.func56 ?_;repeat' first|simp only[go_sem,seval]|refine cP hf ?_|refine cP vx ?_|refine sB ?_|(first|apply pX|apply bX)<;>intro hc|refine⟨oD,?_⟩|exact oD|fail
end Go.Proofs.YtmobkhegihemeaaGreatDoor
