/-
  Part of the proof, part Z29. Own work.
-/
import Derived.Test.YtmobkhegihemeaaGreatDoorZ28
set_option linter.all false
namespace Go.Proofs.YtmobkhegihemeaaGreatDoor
open Go Go.Dom Go.Num
set_option maxRecDepth 100000
set_option maxHeartbeats 16000000
def gE (m o:Bytes):Int:=if !(aa m&&aa o)then 3 else if o==[]then(if eA m []then 0 else 13)else if num m≤1∨num o≤1∨(num m-1)%num o≠0 then 13 else 0
def fq (m o x:Bytes):Bool:=if o==[]then qN m [] x else gU m o x
def jz (m o x:Bytes):Bool:=decide (gE m o=0)&&fq m o x
structure GP (m o:Bytes) (n:Nat):Prop where
 lt:n<num m
 K0:Nat.gcd n (num m)=1
 ord:o=[]∨n^num o%num m=1%num m
theorem fY {m o:Bytes} (h:gE m o=0):aa m=true∧aa o=true∧1<num m∧(o=[]→eA m []=true)∧(o≠[]→1<num o∧(num m-1)%num o=0):=by
 unfold gE at h
 split at h
 ·cases h
 ·rename_i h1;have h1:aa m=true∧aa o=true:=by simpa using h1
  split at h
  ·rename_i h2
   split at h
   ·rename_i h3;have h4:8<num m:=by simp only[eA,Bool.and_eq_true,decide_eq_true_eq]at h3;exact h3.2
    exact⟨h1.1,h1.2,by omega,fun _=>h3,fun g=>absurd (by simpa using h2) g⟩
   ·cases h
  ·rename_i h2
   split at h
   ·cases h
   ·rename_i h3;exact⟨h1.1,h1.2,by omega,fun g=>absurd g (by simpa using h2),fun _=>by omega⟩
theorem qe {x i m:Nat} (hm:1<m) (h:x*i%m=1%m):Nat.gcd x m=1:=by
 have h1:Nat.gcd x m∣x*i%m:=by
  have d1:Nat.gcd x m∣x*i:=Nat.dvd_trans (Nat.gcd_dvd_left x m) (Nat.dvd_mul_right x i);exact(Nat.dvd_mod_iff (Nat.gcd_dvd_right x m)).2 d1
 rw[h,Nat.mod_eq_of_lt hm]at h1;exact Nat.dvd_one.1 h1
theorem bG {m o x:Bytes} (h:gE m o=0):fq m o x=true↔aa x=true∧GP m o (num x):=by
 obtain⟨vm,vo,m1,hr,hp⟩:=fY h;unfold fq
 by_cases ho:o=[]
 ·subst ho;have hb:=hr rfl;simp only[beq_self_eq_true,if_true,qN,hb,Bool.and_eq_true,decide_eq_true_eq,Bool.not_eq_true',beq_eq_false_iff_ne,true_and];constructor
  ·rintro⟨⟨⟨h1,h2⟩,h3⟩,h4⟩;exact⟨h1,h3,h4, .inl rfl⟩
  ·rintro⟨h1,h3,h4,-⟩;refine⟨⟨⟨h1,?_⟩,h3⟩,h4⟩;intro e;subst e;simp[num]at h4;omega
 ·have hb:(o==([]:Bytes))=false:=by simpa using ho
  obtain⟨o1,od⟩:=hp ho;simp only[hb,Bool.false_eq_true,if_false,gU,vm,vo,Bool.and_eq_true,decide_eq_true_eq,Bool.not_eq_true',beq_eq_false_iff_ne,true_and,Bool.not_false,and_true];constructor
  ·rintro⟨⟨⟨h1,h2⟩,h3⟩,h4⟩;have:num x^num o=num x*num x^(num o-1):=by rw[←Nat.pow_succ'];congr 1;omega
   rw[this]at h4;exact⟨h1,h3,qe m1 h4, .inr (by rw[this];exact h4)⟩
  ·rintro⟨h1,h3,h4,h5⟩;refine⟨⟨⟨h1,?_⟩,h3⟩,h5.resolve_left ho⟩;intro e;subst e;simp[num]at h4;omega
theorem xF (a b:Nat):Nat.gcd (a%b) b=Nat.gcd a b:=by rw[←Nat.gcd_rec,Nat.gcd_comm]
theorem GP.unit {m o:Bytes} {n:Nat} (h:GP m o n):bN (num m) n:=dO (by have:=h.lt;omega) h.K0
theorem GP.mul {m o:Bytes} {a b:Nat} (ha:GP m o a) (hb:GP m o b):GP m o (a*b%num m):=by
 have h0:0<num m:=by have:=ha.lt;omega
 refine⟨Nat.mod_lt _ h0,?_,?_⟩
 ·rw[xF];exact Nat.Coprime.mul_left ha.K0 hb.K0
 ·rcases ha.ord with h|h
  ·exact .inl h
  ·rcases hb.ord with g|g
   ·exact .inl g
   ·refine .inr ?_;rw[←Nat.pow_mod,Nat.mul_pow,Nat.mul_mod,h,g,←Nat.mul_mod,Nat.one_mul]
theorem GP.pow {m o:Bytes} {a:Nat} (ha:GP m o a) (e:Nat):GP m o (a^e%num m):=by
 have h0:0<num m:=by have:=ha.lt;omega
 refine⟨Nat.mod_lt _ h0,?_,?_⟩
 ·rw[xF];exact Nat.Coprime.pow_left e ha.K0
 ·rcases ha.ord with h|h
  ·exact .inl h
  ·refine .inr ?_;rw[←Nat.pow_mod,←Nat.pow_mul,Nat.mul_comm,Nat.pow_mul,Nat.pow_mod,h,←Nat.pow_mod,Nat.one_pow]
theorem GP.inv {m o:Bytes} {a:Nat} (ha:GP m o a) (m1:1<num m):GP m o (cA a (num m)):=by
 have h0:0<num m:=by omega
 obtain⟨g1,g2⟩:=ha.unit.inv;refine⟨g1,qe (i:=a) m1 (by rw[Nat.mul_comm];exact g2),?_⟩
 rcases ha.ord with h|h
 ·exact .inl h
 ·refine .inr ?_;have e1:(a*cA a (num m))^num o%num m=1%num m:=by rw[Nat.pow_mod,g2,←Nat.pow_mod,Nat.one_pow]
  rw[Nat.mul_pow,Nat.mul_mod,h,←Nat.mul_mod,Nat.one_mul]at e1;exact e1
theorem GP.br {m o:Bytes} {a:Nat} (ha:GP m o a) (m1:1<num m) (ng:Bool) (e:Nat):GP m o (Dom.br (num m) a ng e):=by
 unfold Dom.br;cases ng
 ·exact ha.pow e
 ·exact(ha.inv m1).pow e
theorem GP.has {m o:Bytes} {n:Nat} (h:GP m o n) (hE:gE m o=0) (lm:m.length≤8):fq m o (aI n)=true:=by
 have:=cv lm;exact(bG hE).2 ⟨vN (by have:=h.lt;omega),by rw[aE];exact h⟩
theorem fI {m:Bytes} (lm:m.length≤8) {o:Bytes} (lo:o.length≤8):aA Tryz.prog 73 [G m o] (E (gE m o)):=by
 by_cases ho:o=[]
 ·subst ho;have:=yK m;have e:gE m []=MD m:=by
   unfold gE MD;have hv0:aa []=true:=rfl
   cases aa m<;>simp[hv0]
  rw[e];exact this
 have hb:(o==([]:Bytes))=false:=by simpa using ho
 have v1:=aG m;have v2:=aG o;unfold gE
 by_cases hv:aa m=true∧aa o=true
 case neg=>
  have:(aa m&&aa o)=false:=by rw[Bool.eq_false_iff];intro g;simp at g;exact hv g
  rw[this];generalize aa m=b1 at*;generalize aa o=b2 at*;refine eW Tryz.call73 Tryz.func73 ?_;repeat' first|simp only[go_sem,seval]|refine cP v1 ?_|refine cP v2 ?_|refine sB ?_|(first|apply pX|apply bX)<;>intro hc|refine⟨oD,?_⟩|exact oD|fail
  all_goals simp_all
 obtain⟨vm,vo⟩:=hv;have nm:=cv lm;have no:=cv lo;have hop:num o≠0:=fun e=>ho ((mL vo).1 e)
 rw[vm]at v1;rw[vo]at v2;rw[vm,vo,hb];have hs:=RV (a:=num m) (b:=1) nm (by decide)
 have hcm:=ie o [2];rw[vo,show aa [2]=true from rfl,show num [2]=2 from rfl]at hcm
 simp only[Bool.and_self,if_true]at hcm;have hcl: ∀ _:True,decide (aO (num o) 2<0)=decide (num o<2):=fun _=>by
  rw[Bool.eq_iff_iff];simp[dL]
 have e1:N (num m)= .s m:=congrArg PV.s (dT vm);have e2:N (num o)= .s o:=congrArg PV.s (dT vo);rw[e1]at hs;generalize aO (num o) 2=cm at*
 by_cases m0:num m=0
 ·rw[if_neg (by omega),if_neg (by omega)]at hs
  have:(if num m≤1∨num o≤1∨(num m-1)%num o≠0 then(13:Int)else 0)=13:=if_pos (by omega)
  simp only[Bool.and_self,Bool.not_true,Bool.false_eq_true,if_false,this];refine eW Tryz.call73 Tryz.func73 ?_;simp only[go_sem,seval,cE];repeat' first|simp only[go_sem,seval,hb,cE]|refine cP v1 ?_|refine cP v2 ?_|refine cP l8 ?_|refine cP hs ?_|refine sB ?_|(first|apply pX|apply bX)<;>intro hc|refine⟨oD,?_⟩|exact oD|fail
  all_goals simp_all
 rw[if_pos (by omega),if_pos (by omega)]at hs
 by_cases m1:num m=1
 ·have:(if num m≤1∨num o≤1∨(num m-1)%num o≠0 then(13:Int)else 0)=13:=if_pos (by omega)
  simp only[Bool.and_self,Bool.not_true,Bool.false_eq_true,if_false,this];rw[m1]at hs;refine eW Tryz.call73 Tryz.func73 ?_;simp only[go_sem,seval,cE];repeat' first|simp only[go_sem,seval,hb,cE,yU]|refine cP v1 ?_|refine cP v2 ?_|refine cP l8 ?_|refine cP hs ?_|refine sB ?_|(first|apply pX|apply bX)<;>intro hc|refine⟨oD,?_⟩|exact oD|fail
  all_goals simp_all
 have en:=lU (n:=num m-1) (by omega)
 have hd:=lZ (a:=num m-1) (b:=num o) (by omega) no (by omega)
 rw[e2]at hd;have hz: ∀ _:True,(aI ((num m-1)%num o)==([]:Bytes))=decide ((num m-1)%num o=0):=fun _=>by
  rw[Bool.eq_iff_iff];simp[ep]
 by_cases o1:num o<2
 ·have:(if num m≤1∨num o≤1∨(num m-1)%num o≠0 then(13:Int)else 0)=13:=if_pos (by omega)
  simp only[Bool.and_self,Bool.not_true,Bool.false_eq_true,if_false,this];rw[decide_eq_true o1]at hcl;refine eW Tryz.call73 Tryz.func73 ?_;simp only[go_sem,seval,cE];repeat' first|simp only[go_sem,seval,hb,cE,en,hcl trivial]|refine cP v1 ?_|refine cP v2 ?_|refine cP l8 ?_|refine cP OM ?_|refine cP hs ?_|refine cP hcm ?_|refine sB ?_|(first|apply pX|apply bX)<;>intro hc|refine⟨oD,?_⟩|exact oD|fail
  all_goals simp_all
 rw[decide_eq_false o1]at hcl
 by_cases hd0:(num m-1)%num o=0
 ·have:(if num m≤1∨num o≤1∨(num m-1)%num o≠0 then(13:Int)else 0)=0:=if_neg (by omega)
  simp only[Bool.and_self,Bool.not_true,Bool.false_eq_true,if_false,this];rw[hd0]at hd;refine eW Tryz.call73 Tryz.func73 ?_;simp only[go_sem,seval,cE];repeat' first|simp only[go_sem,seval,hb,cE,en,hcl trivial,yU]|refine cP v1 ?_|refine cP v2 ?_|refine cP l8 ?_|refine cP OM ?_|refine cP hs ?_|refine cP hcm ?_|refine cP hd ?_|refine sB ?_|(first|apply pX|apply bX)<;>intro hc|refine⟨oD,?_⟩|exact oD|fail
  all_goals simp_all
 ·have:(if num m≤1∨num o≤1∨(num m-1)%num o≠0 then(13:Int)else 0)=13:=if_pos (by omega)
  simp only[Bool.and_self,Bool.not_true,Bool.false_eq_true,if_false,this];have en2:=lU hd0;refine eW Tryz.call73 Tryz.func73 ?_;simp only[go_sem,seval,cE];repeat' first|simp only[go_sem,seval,hb,cE,en,hcl trivial,en2]|refine cP v1 ?_|refine cP v2 ?_|refine cP l8 ?_|refine cP OM ?_|refine cP hs ?_|refine cP hcm ?_|refine cP hd ?_|refine sB ?_|(first|apply pX|apply bX)<;>intro hc|refine⟨oD,?_⟩|exact oD|fail
  all_goals simp_all
theorem mj {m:Bytes} (lm:m.length≤8) (o x:Bytes):aA Tryz.prog 79 [G m o, .s x] (.b (fq m o x)):=by
 by_cases ho:o=[]
 ·subst ho;exact EX lm x
 ·have hb:(o==([]:Bytes))=false:=by simpa using ho
  have h:=Gq lm o x;unfold fq;rw[hb];simp only[Bool.false_eq_true,if_false];refine eW Tryz.call79 Tryz.func79 ?_;repeat' first|simp only[go_sem,seval,hb]|refine cP h ?_|refine sB ?_|(first|apply pX|apply bX)<;>intro hc|refine⟨oD,?_⟩|exact oD|fail
theorem qT {m:Bytes} (lm:m.length≤8) {o:Bytes} (lo:o.length≤8) (x:Bytes):aA Tryz.prog 32 [G m o, .s x] (.b (jz m o x)):=by
 have h1:=fI lm lo;have h2:=mj lm o x;unfold jz;generalize gE m o=z at*;generalize fq m o x=b at*;refine eW Tryz.call32 Tryz.func32 ?_;repeat' first|simp only[go_sem,seval]|refine cP h1 ?_|refine cP h2 ?_|refine sB ?_|(first|apply pX|apply bX)<;>intro hc|refine⟨oD,?_⟩|exact oD|fail
 all_goals simp_all
theorem BN {m:Bytes} (lm:m.length≤8) {o:Bytes} (lo:o.length≤8) {a b:Nat} (hE:gE m o=0) (ha:GP m o a) (hb:GP m o b):aA Tryz.prog 167 [G m o,N a,N b] (.tup [N (a*b%num m),E 0]):=by
 obtain⟨vm,vo,m1,-,-⟩:=fY hE;have hn:=cv lm;have la:=ha.lt;have lb:=hb.lt;have hm:=j9 (a:=a) (b:=b) (m:=num m) (by omega) (by omega) hn (by omega)
 have e1:N (num m)= .s m:=congrArg PV.s (dT vm);rw[e1]at hm;have c1:=aG (aI a);have c2:=aG (aI b);rw[vN (show a<18446744073709551616 by omega)]at c1
 rw[vN (show b<18446744073709551616 by omega)]at c2
 have c3:=fI lm lo;rw[hE]at c3;have c4:=mj lm o (aI a);have c5:=mj lm o (aI b);rw[ha.has hE lm]at c4;rw[hb.has hE lm]at c5;have hch:aA Tryz.prog 124 [G m o, .sl [N a,N b], .sl [], .b true] (E 0):=by
  refine eW Tryz.call124 Tryz.func124 ?_;repeat' first|simp only[go_sem,seval,List.getD_cons_zero,List.getD_cons_succ]|refine cP c1 ?_|refine cP c2 ?_|refine cP c3 ?_|refine cP c4 ?_|refine cP c5 ?_|(refine ae ?_)|refine sB ?_|(first|apply pX|apply bX)<;>intro hc|refine⟨oD,?_⟩|exact oD|fail
 refine eW Tryz.call167 Tryz.func167 ?_;repeat' first|simp only[go_sem,seval]|refine cP hch ?_|refine cP hm ?_|refine sB ?_|(first|apply pX|apply bX)<;>intro hc|refine⟨oD,?_⟩|exact oD|fail
theorem Fb {m:Bytes} (lm:m.length≤8) {o:Bytes} (lo:o.length≤8) {x:Nat} {ng:Bool} {e:Bytes} (hE:gE m o=0) (hx:GP m o x) (he:aa e=true) (hz:(ng&&e==[])=false):aA Tryz.prog 69 [G m o, .sl [N x], .sl [.agg [.b ng, .s e]]] (.tup [N (br (num m) x ng (num e)),E 0]):=by
 obtain⟨vm,vo,m1,-,-⟩:=fY hE;have hn:=cv lm;have lx:=hx.lt;have c1:=aG (aI x);rw[vN (show x<18446744073709551616 by omega)]at c1
 have c2:=dI ng e;rw[he,hz]at c2;have c3:=fI lm lo;rw[hE]at c3;have c4:=mj lm o (aI x);rw[hx.has hE lm]at c4;have hch:aA Tryz.prog 124 [G m o, .sl [N x], .sl [.agg [.b ng, .s e]], .b true] (E 0):=by
  refine eW Tryz.call124 Tryz.func124 ?_;repeat' first|simp only[go_sem,seval,List.getD_cons_zero,List.getD_cons_succ]|refine cP c1 ?_|refine cP c2 ?_|refine cP c3 ?_|refine cP c4 ?_|(refine ae ?_)|refine sB ?_|(first|apply pX|apply bX)<;>intro hc|refine⟨oD,?_⟩|exact oD|fail
 have hbt:=px he;have hbi:=fun i hi=>ri he i hi
 have hinv:=lf (a:=x) (m:=num m) (by omega) hn (by omega) hx.K0
 have hil:=hx.unit.inv.1;clear c1 c2 c3 c4;unfold br;obtain⟨n,hnn⟩: ∃n,n=num e:=⟨_,rfl⟩;obtain⟨M,hM⟩: ∃M,M=num m:=⟨_,rfl⟩;have eG:G m o= .agg [N M, .s o]:=by rw[hM,show N (num m)= .s m from congrArg PV.s (dT vm)]
 rw[eG]at hch⊢;rw[←hM]at lx hn m1 hinv hil;rw[←hnn]at hbt hbi;rw[←hnn,←hM];clear hx;have hbl:a9 n<1000000:=by
  have h1:n<2^1024:=by
   rw[hnn];refine Nat.lt_of_lt_of_le (aZ e) ?_;have le:e.length≤128:=by simp[aa]at he;exact he.1
   exact Nat.le_trans (Nat.pow_le_pow_right (by decide) le) (by decide+kernel)
  unfold a9;split
  ·decide
  ·rename_i h;have:=(Nat.log2_lt h).2 h1;omega
 have hmx: ∀ _:True,(if(a9 n:Int)>0 then(a9 n:Int)else 0)=(a9 n:Int):=fun _=>by split<;>omega
 have hM1:1%M=1:=Nat.mod_eq_of_lt (by omega)
 have hw1: ∀ _:True,IntKind.i64.wrap ((a9 n:Int)-1)=(a9 n:Int)-1:=fun _=>IntWalk.i64_in _ (by omega)
 cases ng
 ·simp only[Bool.false_eq_true,if_false];obtain⟨xm,hxm⟩: ∃xm,xm=x:=⟨_,rfl⟩;rw[←hxm]at hch lx⊢;refine eW Tryz.call69 Tryz.func69 ?_;repeat' first|simp only[go_sem,seval,List.getD_cons_zero,List.getD_cons_succ,De,tP,j7,Cf,hmx trivial,hw1 trivial,cE]|refine cP hch ?_|refine cP hbt ?_|refine cP l8 ?_|refine sB ?_|(first|apply pX|apply bX)<;>intro hc|refine⟨oD,?_⟩|exact oD|fail
  refine ae ?_;repeat' first|simp only[go_sem,seval,List.getD_cons_zero,List.getD_cons_succ,De,tP,j7,Cf,hmx trivial,hw1 trivial,cE]|refine cP hch ?_|refine cP hbt ?_|refine cP l8 ?_|refine sB ?_|(first|apply pX|apply bX)<;>intro hc|refine⟨oD,?_⟩|exact oD|fail
  refine ae ?_;repeat' first|simp only[go_sem,seval,List.getD_cons_zero,List.getD_cons_succ,De,tP,j7,Cf,hmx trivial,hw1 trivial,cE]|refine cP hch ?_|refine cP hbt ?_|refine cP l8 ?_|refine sB ?_|(first|apply pX|apply bX)<;>intro hc|refine⟨oD,?_⟩|exact oD|fail
  refine ai (α:=Nat) (fun k=>k) (fun k=>⟨[(2, .v (.sl [.agg [.b false, .s e]])),(9, .rs 1017 0 0 1 1),(15, .p 1052 0 0),(16, .fn (.func 127) [] [.p 1052 0 0, .p 1000 0 0]),(17, .v (.i .i64 ((k:Int)-1)))],[(1052,⟨0,[.v (N (xm^(n/2^k)%M))],false,some 22⟩),(1017,⟨0,[.v (N xm)],false,none⟩),(1000,⟨0,[.v (N M), .v (.s o)],false,none⟩)],_⟩) (fun k=>k≤a9 n) (a9 n) (fun _=>Nat.le_refl _) (Nat.le_refl _) ?_ ?_
  ·(refine AS.Le.of (by first|decide|omega) ?_ ?_<;>simp[bz,bA,aD,ak,AV.bd,AV.bd.bdL,u8,af,ah,aj])
   rw[K4,Nat.pow_zero,hM1]
  ·intro k hk R hR
   cases k with
   |zero=>
    repeat' first|simp only[go_sem,seval]|refine sB ?_|(first|apply pX|apply bX)<;>intro hc|refine⟨oD,?_⟩|exact oD|fail
    rw[Nat.div_one]
   |succ k=>
    obtain⟨z,hz⟩: ∃z,z=xm^(n/2^(k+1))%M:=⟨_,rfl⟩;have hzm:z<M:=by rw[hz];exact Nat.mod_lt _ (by omega)
    have e1: ∀ _:True,((k+1:Nat):Int)-1=(k:Int):=fun _=>by omega
    have hge: ∀ _:True,decide ((k:Int)≥0)=true:=fun _=>by simp
    have hbit:=hbi k (by omega)
    have hdec:n.testBit k=decide (n/2^k%2=1):=Nat.testBit_eq_decide_div_mod_eq;rw[hdec]at hbit;have hwk: ∀ _:True,IntKind.i64.wrap ((k:Int)-1)=(k:Int)-1:=fun _=>IntWalk.i64_in _ (by omega)
    have hdd:n/2^(k+1)=n/2^k/2:=by rw[Nat.pow_succ,Nat.div_div_eq_div_mul]
    have hzz:z*z%M<M:=Nat.mod_lt _ (by omega)
    rw[←hz];have hx1:=fun nm=>gQ 1052 1000 nm (by decide) o (some 22) none (a:=z) (b:=z) (m:=M) (by omega) (by omega) (by omega) (by omega)
    have hx2:=fun nm=>gQ 1052 1000 nm (by decide) o (some 22) none (a:=z*z%M) (b:=xm) (m:=M) (by omega) (by omega) (by omega) (by omega)
    repeat' first|simp only[go_sem,seval,e1 trivial,hge trivial,List.getD_cons_zero,List.getD_cons_succ,j7]|(refine aR (hx1 _) (by simp[ak]) ?_)|refine sB ?_|(first|apply pX|apply bX)<;>intro hc|refine⟨oD,?_⟩|exact oD|fail
    refine ae ?_;repeat' first|simp only[go_sem,seval,hge trivial,hwk trivial,List.getD_cons_zero,List.getD_cons_succ,j7]|refine cP hbit ?_|(refine aR (hx2 _) (by simp[ak]) ?_)|(refine ae ?_)|refine sB ?_|(first|apply pX|apply bX)<;>intro hc|refine⟨oD,?_⟩|exact oD|fail
    ·have hb2:n/2^k=2*(n/2^(k+1))+1:=by omega
     refine hR k (by omega) (by omega) _ ?_
     have ez:z*z%M*xm%M=xm^(n/2^k)%M:=by
      have e3:z*z%M=xm^(n/2^(k+1))*xm^(n/2^(k+1))%M:=by rw[hz,←Nat.mul_mod]
      rw[hb2,Nat.pow_succ,Nat.two_mul,Nat.pow_add,e3,Nat.mod_mul_mod]
     rw[←ez];exact lE
    ·have hb2:n/2^k=2*(n/2^(k+1)):=by omega
     refine hR k (by omega) (by omega) _ ?_
     have ez:z*z%M=xm^(n/2^k)%M:=by
      rw[hb2,Nat.two_mul,Nat.pow_add,hz,←Nat.mul_mod]
     rw[←ez];exact lE
 ·simp only[if_true];obtain⟨xm,hxm⟩: ∃xm,xm=cA x M:=⟨_,rfl⟩;rw[←hxm]at hinv hil⊢;refine eW Tryz.call69 Tryz.func69 ?_;repeat' first|simp only[go_sem,seval,List.getD_cons_zero,List.getD_cons_succ,De,tP,j7,Cf,hmx trivial,hw1 trivial,cE]|refine cP hch ?_|refine cP hbt ?_|refine cP l8 ?_|refine cP hinv ?_|refine sB ?_|(first|apply pX|apply bX)<;>intro hc|refine⟨oD,?_⟩|exact oD|fail
  refine ae ?_;repeat' first|simp only[go_sem,seval,List.getD_cons_zero,List.getD_cons_succ,De,tP,j7,Cf,hmx trivial,hw1 trivial,cE]|refine cP hch ?_|refine cP hbt ?_|refine cP l8 ?_|refine cP hinv ?_|refine sB ?_|(first|apply pX|apply bX)<;>intro hc|refine⟨oD,?_⟩|exact oD|fail
  refine ae ?_;repeat' first|simp only[go_sem,seval,List.getD_cons_zero,List.getD_cons_succ,De,tP,j7,Cf,hmx trivial,hw1 trivial,cE]|refine cP hch ?_|refine cP hbt ?_|refine cP l8 ?_|refine cP hinv ?_|refine sB ?_|(first|apply pX|apply bX)<;>intro hc|refine⟨oD,?_⟩|exact oD|fail
  refine ai (α:=Nat) (fun k=>k) (fun k=>⟨[(2, .v (.sl [.agg [.b true, .s e]])),(9, .rs 1017 0 0 1 1),(15, .p 1068 0 0),(16, .fn (.func 127) [] [.p 1068 0 0, .p 1000 0 0]),(17, .v (.i .i64 ((k:Int)-1)))],[(1068,⟨0,[.v (N (xm^(n/2^k)%M))],false,some 22⟩),(1017,⟨0,[.v (N xm)],false,none⟩),(1000,⟨0,[.v (N M), .v (.s o)],false,none⟩)],_⟩) (fun k=>k≤a9 n) (a9 n) (fun _=>Nat.le_refl _) (Nat.le_refl _) ?_ ?_
  ·(refine AS.Le.of (by first|decide|omega) ?_ ?_<;>simp[bz,bA,aD,ak,AV.bd,AV.bd.bdL,u8,af,ah,aj])
   rw[K4,Nat.pow_zero,hM1]
  ·intro k hk R hR
   cases k with
   |zero=>
    repeat' first|simp only[go_sem,seval]|refine sB ?_|(first|apply pX|apply bX)<;>intro hc|refine⟨oD,?_⟩|exact oD|fail
    rw[Nat.div_one]
   |succ k=>
    obtain⟨z,hz⟩: ∃z,z=xm^(n/2^(k+1))%M:=⟨_,rfl⟩;have hzm:z<M:=by rw[hz];exact Nat.mod_lt _ (by omega)
    have e1: ∀ _:True,((k+1:Nat):Int)-1=(k:Int):=fun _=>by omega
    have hge: ∀ _:True,decide ((k:Int)≥0)=true:=fun _=>by simp
    have hbit:=hbi k (by omega)
    have hdec:n.testBit k=decide (n/2^k%2=1):=Nat.testBit_eq_decide_div_mod_eq;rw[hdec]at hbit;have hwk: ∀ _:True,IntKind.i64.wrap ((k:Int)-1)=(k:Int)-1:=fun _=>IntWalk.i64_in _ (by omega)
    have hdd:n/2^(k+1)=n/2^k/2:=by rw[Nat.pow_succ,Nat.div_div_eq_div_mul]
    have hzz:z*z%M<M:=Nat.mod_lt _ (by omega)
    rw[←hz];have hx1:=fun nm=>gQ 1068 1000 nm (by decide) o (some 22) none (a:=z) (b:=z) (m:=M) (by omega) (by omega) (by omega) (by omega)
    have hx2:=fun nm=>gQ 1068 1000 nm (by decide) o (some 22) none (a:=z*z%M) (b:=xm) (m:=M) (by omega) (by omega) (by omega) (by omega)
    repeat' first|simp only[go_sem,seval,e1 trivial,hge trivial,List.getD_cons_zero,List.getD_cons_succ,j7]|(refine aR (hx1 _) (by simp[ak]) ?_)|refine sB ?_|(first|apply pX|apply bX)<;>intro hc|refine⟨oD,?_⟩|exact oD|fail
    refine ae ?_;repeat' first|simp only[go_sem,seval,hge trivial,hwk trivial,List.getD_cons_zero,List.getD_cons_succ,j7]|refine cP hbit ?_|(refine aR (hx2 _) (by simp[ak]) ?_)|(refine ae ?_)|refine sB ?_|(first|apply pX|apply bX)<;>intro hc|refine⟨oD,?_⟩|exact oD|fail
    ·have hb2:n/2^k=2*(n/2^(k+1))+1:=by omega
     refine hR k (by omega) (by omega) _ ?_
     have ez:z*z%M*xm%M=xm^(n/2^k)%M:=by
      have e3:z*z%M=xm^(n/2^(k+1))*xm^(n/2^(k+1))%M:=by rw[hz,←Nat.mul_mod]
      rw[hb2,Nat.pow_succ,Nat.two_mul,Nat.pow_add,e3,Nat.mod_mul_mod]
     rw[←ez];exact lE
    ·have hb2:n/2^k=2*(n/2^(k+1)):=by omega
     refine hR k (by omega) (by omega) _ ?_
     have ez:z*z%M=xm^(n/2^k)%M:=by
      rw[hb2,Nat.two_mul,Nat.pow_add,hz,←Nat.mul_mod]
     rw[←ez];exact lE
theorem fS {m:Bytes} (lm:m.length≤8) {o:Bytes} (lo:o.length≤8) {x:Nat} {ng:Bool} {e:Bytes} (hE:gE m o=0) (hx:GP m o x) (he:aa e=true) (hz:(ng&&e==[])=false):aA Tryz.prog 46 [G m o,N x, .agg [.b ng, .s e]] (.tup [N (br (num m) x ng (num e)),E 0]):=by
 have hp:=Fb lm lo hE hx he hz;refine eW Tryz.call46 Tryz.func46 ?_;repeat' first|simp only[go_sem,seval]|refine cP hp ?_|refine sB ?_|(first|apply pX|apply bX)<;>intro hc|refine⟨oD,?_⟩|exact oD|fail
end Go.Proofs.YtmobkhegihemeaaGreatDoor
