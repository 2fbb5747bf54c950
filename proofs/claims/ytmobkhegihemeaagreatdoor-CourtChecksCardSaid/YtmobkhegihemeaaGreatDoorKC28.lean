/-
  Part of the proof, part KC28. Own work.
-/
import Derived.Test.YtmobkhegihemeaaGreatDoorKC27
set_option linter.all false
namespace Go.Proofs.YtmobkhegihemeaaGreatDoor
open Go Go.Dom Go.Num
set_option maxRecDepth 100000
set_option maxHeartbeats 16000000
def gE (m o:Bytes):Int:=if !(aa m&&aa o)then 3 else if o==[]then(if gV m []then 0 else 13)else if num m≤1∨num o≤1∨(num m-1)%num o≠0 then 13 else 0
def jg (m o x:Bytes):Bool:=if o==[]then w9 m [] x else lO m o x
def kG (m o x:Bytes):Bool:=decide (gE m o=0)&&jg m o x
structure GP (m o:Bytes) (n:Nat):Prop where
 lt:n<num m
 O9:Nat.gcd n (num m)=1
 ord:o=[]∨n^num o%num m=1%num m
theorem jY {m o:Bytes} (h:gE m o=0):aa m=true∧aa o=true∧1<num m∧(o=[]→gV m []=true)∧(o≠[]→1<num o∧(num m-1)%num o=0):=by
 unfold gE at h
 split at h
 ·cases h
 ·rename_i h1;have h1:aa m=true∧aa o=true:=by simpa using h1
  split at h
  ·rename_i h2
   split at h
   ·rename_i h3;have h4:8<num m:=by simp only[gV,aZ,decide_eq_true_eq]at h3;exact h3.2
    exact⟨h1.1,h1.2,by omega,fun _=>h3,fun g=>absurd (by simpa using h2) g⟩
   ·cases h
  ·rename_i h2
   split at h
   ·cases h
   ·rename_i h3;exact⟨h1.1,h1.2,by omega,fun g=>absurd g (by simpa using h2),fun _=>by omega⟩
theorem vM {x i m:Nat} (hm:1<m) (h:x*i%m=1%m):Nat.gcd x m=1:=by
 have h1:Nat.gcd x m∣x*i%m:=by
  have d1:Nat.gcd x m∣x*i:=Nat.dvd_trans (AL x m) (Nat.dvd_mul_right x i);exact(Nat.dvd_mod_iff (AG x m)).2 d1
 rw[h,bA hm]at h1;exact Nat.dvd_one.1 h1
theorem dp {m o x:Bytes} (h:gE m o=0):jg m o x=true↔aa x=true∧GP m o (num x):=by
 obtain⟨vm,vo,m1,hr,hp⟩:=jY h;unfold jg
 by_cases ho:o=[]
 ·subst ho;have hb:=hr rfl;simp only[beq_self_eq_true,if_true,w9,hb,aZ,decide_eq_true_eq,fF,beq_eq_false_iff_ne,true_and];constructor
  ·rintro⟨⟨⟨h1,h2⟩,h3⟩,h4⟩;exact⟨h1,h3,h4, .inl rfl⟩
  ·rintro⟨h1,h3,h4,-⟩;refine⟨⟨⟨h1,?_⟩,h3⟩,h4⟩;intro e;subst e;simp[num]at h4;omega
 ·have hb:(o==([]:Bytes))=false:=by simpa using ho
  obtain⟨o1,od⟩:=hp ho;simp only[hb,aW,if_false,lO,vm,vo,aZ,decide_eq_true_eq,fF,beq_eq_false_iff_ne,true_and,bR,and_true];constructor
  ·rintro⟨⟨⟨h1,h2⟩,h3⟩,h4⟩;have:num x^num o=num x*num x^(num o-1):=by rw[←tY];congr 1;omega
   rw[this]at h4;exact⟨h1,h3,vM m1 h4, .inr (by rw[this];exact h4)⟩
  ·rintro⟨h1,h3,h4,h5⟩;refine⟨⟨⟨h1,?_⟩,h3⟩,h5.resolve_left ho⟩;intro e;subst e;simp[num]at h4;omega
theorem BI (a b:Nat):Nat.gcd (a%b) b=Nat.gcd a b:=by rw[←kD,jx]
theorem GP.unit {m o:Bytes} {n:Nat} (h:GP m o n):fk (num m) n:=fA (by have:=h.lt;omega) h.O9
theorem GP.mul {m o:Bytes} {a b:Nat} (ha:GP m o a) (hb:GP m o b):GP m o (a*b%num m):=by
 have h0:0<num m:=by have:=ha.lt;omega
 refine⟨aG _ h0,?_,?_⟩
 ·rw[BI];exact Nat.Coprime.mul_left ha.O9 hb.O9
 ·rcases ha.ord with h|h
  ·exact .inl h
  ·rcases hb.ord with g|g
   ·exact .inl g
   ·refine .inr ?_;rw[←jD,uA,cz,h,g,←cz,ko]
theorem GP.pow {m o:Bytes} {a:Nat} (ha:GP m o a) (e:Nat):GP m o (a^e%num m):=by
 have h0:0<num m:=by have:=ha.lt;omega
 refine⟨aG _ h0,?_,?_⟩
 ·rw[BI];exact Nat.Coprime.pow_left e ha.O9
 ·rcases ha.ord with h|h
  ·exact .inl h
  ·refine .inr ?_;rw[←jD,←jb,a7,jb,jD,h,←jD,qY]
theorem GP.inv {m o:Bytes} {a:Nat} (ha:GP m o a) (m1:1<num m):GP m o (eV a (num m)):=by
 have h0:0<num m:=by omega
 obtain⟨g1,g2⟩:=ha.unit.inv;refine⟨g1,vM (i:=a) m1 (by rw[a7];exact g2),?_⟩
 rcases ha.ord with h|h
 ·exact .inl h
 ·refine .inr ?_;have e1:(a*eV a (num m))^num o%num m=1%num m:=by rw[jD,g2,←jD,qY]
  rw[uA,cz,h,←cz,ko]at e1;exact e1
theorem GP.cL {m o:Bytes} {a:Nat} (ha:GP m o a) (m1:1<num m) (ng:Bool) (e:Nat):GP m o (Dom.cL (num m) a ng e):=by
 unfold Dom.cL;cases ng
 ·exact ha.pow e
 ·exact(ha.inv m1).pow e
theorem GP.has {m o:Bytes} {n:Nat} (h:GP m o n) (hE:gE m o=0) (lm:m.length≤8):jg m o (aP n)=true:=by
 have:=ep lm;exact(dp hE).2 ⟨vN (by have:=h.lt;omega),by rw[aK];exact h⟩
theorem jn {m:Bytes} (lm:m.length≤8) {o:Bytes} (lo:o.length≤8):aD Tryz.prog 73 [G m o] (E (gE m o)):=by
 by_cases ho:o=[]
 ·subst ho;have:=DY m;have e:gE m []=Sf m:=by
   unfold gE Sf;have hv0:aa []=true:=rfl
   cases aa m<;>simp[hv0]
  rw[e];exact this
 have hb:(o==([]:Bytes))=false:=by simpa using ho
 have v1:=aM m;have v2:=aM o;unfold gE
 by_cases hv:aa m=true∧aa o=true
 case neg=>
  have:(aa m&&aa o)=false:=by rw[fj];intro g;simp at g;exact hv g
  rw[this];generalize aa m=b1 at*;generalize aa o=b2 at*;refine eW Tryz.call73 Tryz.func73 ?_;repeat' first|simp only[go_sem,seval]|refine cP v1 ?_|refine cP v2 ?_|refine sB ?_|(first|apply pX|apply bX)<;>intro hc|refine⟨oD,?_⟩|exact oD|fail
  all_goals simp_all
 obtain⟨vm,vo⟩:=hv;have nm:=ep lm;have no:=ep lo;have hop:num o≠0:=fun e=>ho ((qB vo).1 e)
 rw[vm]at v1;rw[vo]at v2;rw[vm,vo,hb];have hs:=Vh (a:=num m) (b:=1) nm (by decide)
 have hcm:=kL o [2];rw[vo,show aa [2]=true from rfl,show num [2]=2 from rfl]at hcm
 simp only[dh,if_true]at hcm;have hcl: ∀ _:True,decide (a6 (num o) 2<0)=decide (num o<2):=fun _=>by
  rw[dx];simp[fS]
 have e1:N (num m)= .s m:=congrArg PV.s (fW vm);have e2:N (num o)= .s o:=congrArg PV.s (fW vo);rw[e1]at hs;generalize a6 (num o) 2=cm at*
 by_cases m0:num m=0
 ·rw[if_neg (by omega),if_neg (by omega)]at hs
  have:(if num m≤1∨num o≤1∨(num m-1)%num o≠0 then(13:Int)else 0)=13:=if_pos (by omega)
  simp only[dh,bu,aW,if_false,this];refine eW Tryz.call73 Tryz.func73 ?_;simp only[go_sem,seval,dY];repeat' first|simp only[go_sem,seval,hb,dY]|refine cP v1 ?_|refine cP v2 ?_|refine cP pV ?_|refine cP hs ?_|refine sB ?_|(first|apply pX|apply bX)<;>intro hc|refine⟨oD,?_⟩|exact oD|fail
  all_goals simp_all
 rw[if_pos (by omega),if_pos (by omega)]at hs
 by_cases m1:num m=1
 ·have:(if num m≤1∨num o≤1∨(num m-1)%num o≠0 then(13:Int)else 0)=13:=if_pos (by omega)
  simp only[dh,bu,aW,if_false,this];rw[m1]at hs;refine eW Tryz.call73 Tryz.func73 ?_;simp only[go_sem,seval,dY];repeat' first|simp only[go_sem,seval,hb,dY,DN]|refine cP v1 ?_|refine cP v2 ?_|refine cP pV ?_|refine cP hs ?_|refine sB ?_|(first|apply pX|apply bX)<;>intro hc|refine⟨oD,?_⟩|exact oD|fail
  all_goals simp_all
 have en:=qz (n:=num m-1) (by omega)
 have hd:=pR (a:=num m-1) (b:=num o) (by omega) no (by omega)
 rw[e2]at hd;have hz: ∀ _:True,(aP ((num m-1)%num o)==([]:Bytes))=decide ((num m-1)%num o=0):=fun _=>by
  rw[dx];simp[gI]
 by_cases o1:num o<2
 ·have:(if num m≤1∨num o≤1∨(num m-1)%num o≠0 then(13:Int)else 0)=13:=if_pos (by omega)
  simp only[dh,bu,aW,if_false,this];rw[decide_eq_true o1]at hcl;refine eW Tryz.call73 Tryz.func73 ?_;simp only[go_sem,seval,dY];repeat' first|simp only[go_sem,seval,hb,dY,en,hcl trivial]|refine cP v1 ?_|refine cP v2 ?_|refine cP pV ?_|refine cP Ta ?_|refine cP hs ?_|refine cP hcm ?_|refine sB ?_|(first|apply pX|apply bX)<;>intro hc|refine⟨oD,?_⟩|exact oD|fail
  all_goals simp_all
 rw[decide_eq_false o1]at hcl
 by_cases hd0:(num m-1)%num o=0
 ·have:(if num m≤1∨num o≤1∨(num m-1)%num o≠0 then(13:Int)else 0)=0:=if_neg (by omega)
  simp only[dh,bu,aW,if_false,this];rw[hd0]at hd;refine eW Tryz.call73 Tryz.func73 ?_;simp only[go_sem,seval,dY];repeat' first|simp only[go_sem,seval,hb,dY,en,hcl trivial,DN]|refine cP v1 ?_|refine cP v2 ?_|refine cP pV ?_|refine cP Ta ?_|refine cP hs ?_|refine cP hcm ?_|refine cP hd ?_|refine sB ?_|(first|apply pX|apply bX)<;>intro hc|refine⟨oD,?_⟩|exact oD|fail
  all_goals simp_all
 ·have:(if num m≤1∨num o≤1∨(num m-1)%num o≠0 then(13:Int)else 0)=13:=if_pos (by omega)
  simp only[dh,bu,aW,if_false,this];have en2:=qz hd0;refine eW Tryz.call73 Tryz.func73 ?_;simp only[go_sem,seval,dY];repeat' first|simp only[go_sem,seval,hb,dY,en,hcl trivial,en2]|refine cP v1 ?_|refine cP v2 ?_|refine cP pV ?_|refine cP Ta ?_|refine cP hs ?_|refine cP hcm ?_|refine cP hd ?_|refine sB ?_|(first|apply pX|apply bX)<;>intro hc|refine⟨oD,?_⟩|exact oD|fail
  all_goals simp_all
theorem qp {m:Bytes} (lm:m.length≤8) (o x:Bytes):aD Tryz.prog 79 [G m o, .s x] (.b (jg m o x)):=by
 by_cases ho:o=[]
 ·subst ho;exact KH lm x
 ·have hb:(o==([]:Bytes))=false:=by simpa using ho
  have h:=Kw lm o x;unfold jg;rw[hb];simp only[aW,if_false];refine eW Tryz.call79 Tryz.func79 ?_;repeat' first|simp only[go_sem,seval,hb]|refine cP h ?_|refine sB ?_|(first|apply pX|apply bX)<;>intro hc|refine⟨oD,?_⟩|exact oD|fail
theorem vL {m:Bytes} (lm:m.length≤8) {o:Bytes} (lo:o.length≤8) (x:Bytes):aD Tryz.prog 32 [G m o, .s x] (.b (kG m o x)):=by
 have h1:=jn lm lo;have h2:=qp lm o x;unfold kG;generalize gE m o=z at*;generalize jg m o x=b at*;refine eW Tryz.call32 Tryz.func32 ?_;repeat' first|simp only[go_sem,seval]|refine cP h1 ?_|refine cP h2 ?_|refine sB ?_|(first|apply pX|apply bX)<;>intro hc|refine⟨oD,?_⟩|exact oD|fail
 all_goals simp_all
theorem Fk {m:Bytes} (lm:m.length≤8) {o:Bytes} (lo:o.length≤8) {a b:Nat} (hE:gE m o=0) (ha:GP m o a) (hb:GP m o b):aD Tryz.prog 167 [G m o,N a,N b] (.tup [N (a*b%num m),E 0]):=by
 obtain⟨vm,vo,m1,-,-⟩:=jY hE;have hn:=ep lm;have la:=ha.lt;have lb:=hb.lt;have hm:=nX (a:=a) (b:=b) (m:=num m) (by omega) (by omega) hn (by omega)
 have e1:N (num m)= .s m:=congrArg PV.s (fW vm);rw[e1]at hm;have c1:=aM (aP a);have c2:=aM (aP b);rw[vN (show a<18446744073709551616 by omega)]at c1
 rw[vN (show b<18446744073709551616 by omega)]at c2
 have c3:=jn lm lo;rw[hE]at c3;have c4:=qp lm o (aP a);have c5:=qp lm o (aP b);rw[ha.has hE lm]at c4;rw[hb.has hE lm]at c5;have hch:aD Tryz.prog 124 [G m o, .sl [N a,N b], .sl [], .b true] (E 0):=by
  refine eW Tryz.call124 Tryz.func124 ?_;repeat' first|simp only[go_sem,seval,cb,bI]|refine cP c1 ?_|refine cP c2 ?_|refine cP c3 ?_|refine cP c4 ?_|refine cP c5 ?_|(refine ae ?_)|refine sB ?_|(first|apply pX|apply bX)<;>intro hc|refine⟨oD,?_⟩|exact oD|fail
 refine eW Tryz.call167 Tryz.func167 ?_;repeat' first|simp only[go_sem,seval]|refine cP hch ?_|refine cP hm ?_|refine sB ?_|(first|apply pX|apply bX)<;>intro hc|refine⟨oD,?_⟩|exact oD|fail
theorem JD {m:Bytes} (lm:m.length≤8) {o:Bytes} (lo:o.length≤8) {x:Nat} {ng:Bool} {e:Bytes} (hE:gE m o=0) (hx:GP m o x) (he:aa e=true) (hz:(ng&&e==[])=false):aD Tryz.prog 69 [G m o, .sl [N x], .sl [.agg [.b ng, .s e]]] (.tup [N (cL (num m) x ng (num e)),E 0]):=by
 obtain⟨vm,vo,m1,-,-⟩:=jY hE;have hn:=ep lm;have lx:=hx.lt;have c1:=aM (aP x);rw[vN (show x<18446744073709551616 by omega)]at c1
 have c2:=fJ ng e;rw[he,hz]at c2;have c3:=jn lm lo;rw[hE]at c3;have c4:=qp lm o (aP x);rw[hx.has hE lm]at c4;have hch:aD Tryz.prog 124 [G m o, .sl [N x], .sl [.agg [.b ng, .s e]], .b true] (E 0):=by
  refine eW Tryz.call124 Tryz.func124 ?_;repeat' first|simp only[go_sem,seval,cb,bI]|refine cP c1 ?_|refine cP c2 ?_|refine cP c3 ?_|refine cP c4 ?_|(refine ae ?_)|refine sB ?_|(first|apply pX|apply bX)<;>intro hc|refine⟨oD,?_⟩|exact oD|fail
 have hbt:=tH he;have hbi:=fun i hi=>uM he i hi
 have hinv:=pc (a:=x) (m:=num m) (by omega) hn (by omega) hx.O9
 have hil:=hx.unit.inv.1;clear c1 c2 c3 c4;unfold cL;obtain⟨n,hnn⟩: ∃n,n=num e:=⟨_,rfl⟩;obtain⟨M,hM⟩: ∃M,M=num m:=⟨_,rfl⟩;have eG:G m o= .agg [N M, .s o]:=by rw[hM,show N (num m)= .s m from congrArg PV.s (fW vm)]
 rw[eG]at hch⊢;rw[←hM]at lx hn m1 hinv hil;rw[←hnn]at hbt hbi;rw[←hnn,←hM];clear hx;have hbl:cd n<1000000:=by
  have h1:n<2^1024:=by
   rw[hnn];refine a9 (bV e) ?_;have le:e.length≤128:=by simp[aa]at he;exact he.1
   exact fg (cQ (by decide) le) (by decide+kernel)
  unfold cd;split
  ·decide
  ·rename_i h;have:=(ur h).2 h1;omega
 have hmx: ∀ _:True,(if(cd n:Int)>0 then(cd n:Int)else 0)=(cd n:Int):=fun _=>by split<;>omega
 have hM1:1%M=1:=bA (by omega)
 have hw1: ∀ _:True,IntKind.i64.wrap ((cd n:Int)-1)=(cd n:Int)-1:=fun _=>IntWalk.i64_in _ (by omega)
 cases ng
 ·simp only[aW,if_false];obtain⟨xm,hxm⟩: ∃xm,xm=x:=⟨_,rfl⟩;rw[←hxm]at hch lx⊢;refine eW Tryz.call69 Tryz.func69 ?_;repeat' first|simp only[go_sem,seval,cb,bI,Hj,yo,om,HP,hmx trivial,hw1 trivial,dY]|refine cP hch ?_|refine cP hbt ?_|refine cP pV ?_|refine sB ?_|(first|apply pX|apply bX)<;>intro hc|refine⟨oD,?_⟩|exact oD|fail
  refine ae ?_;repeat' first|simp only[go_sem,seval,cb,bI,Hj,yo,om,HP,hmx trivial,hw1 trivial,dY]|refine cP hch ?_|refine cP hbt ?_|refine cP pV ?_|refine sB ?_|(first|apply pX|apply bX)<;>intro hc|refine⟨oD,?_⟩|exact oD|fail
  refine ae ?_;repeat' first|simp only[go_sem,seval,cb,bI,Hj,yo,om,HP,hmx trivial,hw1 trivial,dY]|refine cP hch ?_|refine cP hbt ?_|refine cP pV ?_|refine sB ?_|(first|apply pX|apply bX)<;>intro hc|refine⟨oD,?_⟩|exact oD|fail
  refine aj (α:=Nat) (fun k=>k) (fun k=>⟨[(2, .v (.sl [.agg [.b false, .s e]])),(9, .rs 1017 0 0 1 1),(15, .p 1052 0 0),(16, .fn (.func 127) [] [.p 1052 0 0, .p 1000 0 0]),(17, .v (.i .i64 ((k:Int)-1)))],[(1052,⟨0,[.v (N (xm^(n/2^k)%M))],false,some 22⟩),(1017,⟨0,[.v (N xm)],false,none⟩),(1000,⟨0,[.v (N M), .v (.s o)],false,none⟩)],_⟩) (fun k=>k≤cd n) (cd n) (fun _=>au _) (au _) ?_ ?_
  ·(refine AS.Le.of (by first|decide|omega) ?_ ?_<;>simp[cl,cj,aF,ar,AV.bd,AV.bd.bdL,u8,ah,ai,aq])
   rw[O5,Nat.pow_zero,hM1]
  ·intro k hk R hR
   cases k with
   |zero=>
    repeat' first|simp only[go_sem,seval]|refine sB ?_|(first|apply pX|apply bX)<;>intro hc|refine⟨oD,?_⟩|exact oD|fail
    rw[iY]
   |succ k=>
    obtain⟨z,hz⟩: ∃z,z=xm^(n/2^(k+1))%M:=⟨_,rfl⟩;have hzm:z<M:=by rw[hz];exact aG _ (by omega)
    have e1: ∀ _:True,((k+1:Nat):Int)-1=(k:Int):=fun _=>by omega
    have hge: ∀ _:True,decide ((k:Int)≥0)=true:=fun _=>by simp
    have hbit:=hbi k (by omega)
    have hdec:n.testBit k=decide (n/2^k%2=1):=jS;rw[hdec]at hbit;have hwk: ∀ _:True,IntKind.i64.wrap ((k:Int)-1)=(k:Int)-1:=fun _=>IntWalk.i64_in _ (by omega)
    have hdd:n/2^(k+1)=n/2^k/2:=by rw[Nat.pow_succ,dZ]
    have hzz:z*z%M<M:=aG _ (by omega)
    rw[←hz];have hx1:=fun nm=>kK 1052 1000 nm (by decide) o (some 22) none (a:=z) (b:=z) (m:=M) (by omega) (by omega) (by omega) (by omega)
    have hx2:=fun nm=>kK 1052 1000 nm (by decide) o (some 22) none (a:=z*z%M) (b:=xm) (m:=M) (by omega) (by omega) (by omega) (by omega)
    repeat' first|simp only[go_sem,seval,e1 trivial,hge trivial,cb,bI,om]|(refine br (hx1 _) (by simp[ar]) ?_)|refine sB ?_|(first|apply pX|apply bX)<;>intro hc|refine⟨oD,?_⟩|exact oD|fail
    refine ae ?_;repeat' first|simp only[go_sem,seval,hge trivial,hwk trivial,cb,bI,om]|refine cP hbit ?_|(refine br (hx2 _) (by simp[ar]) ?_)|(refine ae ?_)|refine sB ?_|(first|apply pX|apply bX)<;>intro hc|refine⟨oD,?_⟩|exact oD|fail
    ·have hb2:n/2^k=2*(n/2^(k+1))+1:=by omega
     refine hR k (by omega) (by omega) _ ?_
     have ez:z*z%M*xm%M=xm^(n/2^k)%M:=by
      have e3:z*z%M=xm^(n/2^(k+1))*xm^(n/2^(k+1))%M:=by rw[hz,←cz]
      rw[hb2,Nat.pow_succ,oL,ct,e3,iV]
     rw[←ez];exact lE
    ·have hb2:n/2^k=2*(n/2^(k+1)):=by omega
     refine hR k (by omega) (by omega) _ ?_
     have ez:z*z%M=xm^(n/2^k)%M:=by
      rw[hb2,oL,ct,hz,←cz]
     rw[←ez];exact lE
 ·simp only[if_true];obtain⟨xm,hxm⟩: ∃xm,xm=eV x M:=⟨_,rfl⟩;rw[←hxm]at hinv hil⊢;refine eW Tryz.call69 Tryz.func69 ?_;repeat' first|simp only[go_sem,seval,cb,bI,Hj,yo,om,HP,hmx trivial,hw1 trivial,dY]|refine cP hch ?_|refine cP hbt ?_|refine cP pV ?_|refine cP hinv ?_|refine sB ?_|(first|apply pX|apply bX)<;>intro hc|refine⟨oD,?_⟩|exact oD|fail
  refine ae ?_;repeat' first|simp only[go_sem,seval,cb,bI,Hj,yo,om,HP,hmx trivial,hw1 trivial,dY]|refine cP hch ?_|refine cP hbt ?_|refine cP pV ?_|refine cP hinv ?_|refine sB ?_|(first|apply pX|apply bX)<;>intro hc|refine⟨oD,?_⟩|exact oD|fail
  refine ae ?_;repeat' first|simp only[go_sem,seval,cb,bI,Hj,yo,om,HP,hmx trivial,hw1 trivial,dY]|refine cP hch ?_|refine cP hbt ?_|refine cP pV ?_|refine cP hinv ?_|refine sB ?_|(first|apply pX|apply bX)<;>intro hc|refine⟨oD,?_⟩|exact oD|fail
  refine aj (α:=Nat) (fun k=>k) (fun k=>⟨[(2, .v (.sl [.agg [.b true, .s e]])),(9, .rs 1017 0 0 1 1),(15, .p 1068 0 0),(16, .fn (.func 127) [] [.p 1068 0 0, .p 1000 0 0]),(17, .v (.i .i64 ((k:Int)-1)))],[(1068,⟨0,[.v (N (xm^(n/2^k)%M))],false,some 22⟩),(1017,⟨0,[.v (N xm)],false,none⟩),(1000,⟨0,[.v (N M), .v (.s o)],false,none⟩)],_⟩) (fun k=>k≤cd n) (cd n) (fun _=>au _) (au _) ?_ ?_
  ·(refine AS.Le.of (by first|decide|omega) ?_ ?_<;>simp[cl,cj,aF,ar,AV.bd,AV.bd.bdL,u8,ah,ai,aq])
   rw[O5,Nat.pow_zero,hM1]
  ·intro k hk R hR
   cases k with
   |zero=>
    repeat' first|simp only[go_sem,seval]|refine sB ?_|(first|apply pX|apply bX)<;>intro hc|refine⟨oD,?_⟩|exact oD|fail
    rw[iY]
   |succ k=>
    obtain⟨z,hz⟩: ∃z,z=xm^(n/2^(k+1))%M:=⟨_,rfl⟩;have hzm:z<M:=by rw[hz];exact aG _ (by omega)
    have e1: ∀ _:True,((k+1:Nat):Int)-1=(k:Int):=fun _=>by omega
    have hge: ∀ _:True,decide ((k:Int)≥0)=true:=fun _=>by simp
    have hbit:=hbi k (by omega)
    have hdec:n.testBit k=decide (n/2^k%2=1):=jS;rw[hdec]at hbit;have hwk: ∀ _:True,IntKind.i64.wrap ((k:Int)-1)=(k:Int)-1:=fun _=>IntWalk.i64_in _ (by omega)
    have hdd:n/2^(k+1)=n/2^k/2:=by rw[Nat.pow_succ,dZ]
    have hzz:z*z%M<M:=aG _ (by omega)
    rw[←hz];have hx1:=fun nm=>kK 1068 1000 nm (by decide) o (some 22) none (a:=z) (b:=z) (m:=M) (by omega) (by omega) (by omega) (by omega)
    have hx2:=fun nm=>kK 1068 1000 nm (by decide) o (some 22) none (a:=z*z%M) (b:=xm) (m:=M) (by omega) (by omega) (by omega) (by omega)
    repeat' first|simp only[go_sem,seval,e1 trivial,hge trivial,cb,bI,om]|(refine br (hx1 _) (by simp[ar]) ?_)|refine sB ?_|(first|apply pX|apply bX)<;>intro hc|refine⟨oD,?_⟩|exact oD|fail
    refine ae ?_;repeat' first|simp only[go_sem,seval,hge trivial,hwk trivial,cb,bI,om]|refine cP hbit ?_|(refine br (hx2 _) (by simp[ar]) ?_)|(refine ae ?_)|refine sB ?_|(first|apply pX|apply bX)<;>intro hc|refine⟨oD,?_⟩|exact oD|fail
    ·have hb2:n/2^k=2*(n/2^(k+1))+1:=by omega
     refine hR k (by omega) (by omega) _ ?_
     have ez:z*z%M*xm%M=xm^(n/2^k)%M:=by
      have e3:z*z%M=xm^(n/2^(k+1))*xm^(n/2^(k+1))%M:=by rw[hz,←cz]
      rw[hb2,Nat.pow_succ,oL,ct,e3,iV]
     rw[←ez];exact lE
    ·have hb2:n/2^k=2*(n/2^(k+1)):=by omega
     refine hR k (by omega) (by omega) _ ?_
     have ez:z*z%M=xm^(n/2^k)%M:=by
      rw[hb2,oL,ct,hz,←cz]
     rw[←ez];exact lE
theorem jK {m:Bytes} (lm:m.length≤8) {o:Bytes} (lo:o.length≤8) {x:Nat} {ng:Bool} {e:Bytes} (hE:gE m o=0) (hx:GP m o x) (he:aa e=true) (hz:(ng&&e==[])=false):aD Tryz.prog 46 [G m o,N x, .agg [.b ng, .s e]] (.tup [N (cL (num m) x ng (num e)),E 0]):=by
 have hp:=JD lm lo hE hx he hz;refine eW Tryz.call46 Tryz.func46 ?_;repeat' first|simp only[go_sem,seval]|refine cP hp ?_|refine sB ?_|(first|apply pX|apply bX)<;>intro hc|refine⟨oD,?_⟩|exact oD|fail
end Go.Proofs.YtmobkhegihemeaaGreatDoor
namespace Go.Proofs.YtmobkhegihemeaaGreatDoor
open Go Go.Dom Go.Num
set_option maxRecDepth 100000
set_option maxHeartbeats 8000000
structure fR where
 (base:Bytes) (var:Int) (neg:Bool) (abs:Bytes)
def fR.pv:fR→PV
 |⟨b,v,n,a⟩=> .agg [.s b, .i .i64 v, .b n, .s a]
structure eE where
 (lF:Int) (tgt:Bytes) (terms:List fR)
def eE.pv:eE→PV
 |⟨g,t,l⟩=> .agg [.i .i64 g, .s t, .sl (l.map fR.pv)]
def gG:Bytes×Bytes→PV
 |(m,o)=> .agg [.s m, .s o]
def dC (b:Bytes):PV:= .agg [.s b]
def eg:Bool×Bytes→PV
 |(n,a)=> .agg [.b n, .s a]
structure dy where
 (groups:List (Bytes×Bytes)) (vars:List Bytes) (eqs:List eE)
def dy.pv (s:dy):PV:= .agg [.sl (s.groups.map gG), .sl (s.vars.map dC), .sl (s.eqs.map eE.pv)]
def lf (z:Int):Bool×Bytes:=(zs z,zb z)
theorem Nt (z:Int):eg (lf z)=Z z:=rfl
def Zp (z:Int):PV:=eg (lf z)
def db (x:Bool×Bytes):Bool:=aa x.2&& !(x.1&&x.2==[])
def ka:fR:=⟨[],0,false,[]⟩
def ku:eE:=⟨0,[],[]⟩
def gO:Bytes×Bytes:=([],[])
def kZ:Bool×Bytes:=(false,[])
structure Te (s:dy):Prop where
 g: ∀p∈s.groups,gE p.1 p.2=0∧p.1.length≤8∧p.2.length≤8
 v: ∀b∈s.vars,aa b=true∧b≠[]∧b.length≤16
 q: ∀q∈s.eqs,0≤q.lF∧q.lF<s.groups.length∧jg (s.groups.getD q.lF.toNat gO).1 (s.groups.getD q.lF.toNat gO).2 q.tgt=true∧q.terms.length≤64∧
  ∀t∈q.terms,0≤t.var∧t.var<s.vars.length∧jg (s.groups.getD q.lF.toNat gO).1 (s.groups.getD q.lF.toNat gO).2 t.base=true∧db (t.neg,t.abs)=true
 ng:s.groups.length≤8
 nv:s.vars.length≤64
 ne:s.eqs.length≤64
structure Vg (s:dy):Prop where
 g: ∀p∈s.groups,gE p.1 p.2=0∧p.1.length≤8∧p.2.length≤8
 q: ∀q∈s.eqs,0≤q.lF∧q.lF<s.groups.length∧jg (s.groups.getD q.lF.toNat gO).1 (s.groups.getD q.lF.toNat gO).2 q.tgt=true∧q.terms.length≤64∧
  ∀t∈q.terms,0≤t.var∧t.var<s.vars.length∧jg (s.groups.getD q.lF.toNat gO).1 (s.groups.getD q.lF.toNat gO).2 t.base=true∧db (t.neg,t.abs)=true
 ng:s.groups.length≤8
 nv:s.vars.length≤64
 ne:s.eqs.length≤64
theorem Te.m {s:dy} (h:Te s):Vg s:=⟨h.g,h.q,h.ng,h.nv,h.ne⟩
theorem getD_map {α:Type} (f:α→PV) (l:List α) (d:α) {i:Nat} (h:i<l.length):(l.map f).getD i .fn0=f (l.getD i d):=by
 simp[aX,h]
theorem aR {α:Type} {l:List α} {i:Nat} (d:α) (h:i<l.length):l.drop i=l.getD i d::l.drop (i+1):=by
 rw[ig h,aX,aU h];rfl
theorem ay {α:Type} {l:List α} {i:Nat} (d:α) (h:i<l.length):l.getD i d∈l:=by
 rw[aX,aU h];exact jc h
theorem px {m o x:Bytes} (hE:gE m o=0) (h:jg m o x=true):aa x=true:=((dp hE).1 h).1
theorem xF (l:List (Bool×Bytes)) (f:FuncId) (p:(Bool×Bytes)→Bool) (hl:l.length<4611686018427387904) (h: ∀x,aD Tryz.prog f [eg x] (.b (p x))):aD Tryz.prog 251 [.sl (l.map eg), .fn (.func f)] (E (dA p 0 l)):=by
 have hlm:(l.map eg).length=l.length:=aH ..;refine eW Tryz.call251 Tryz.func251 ?_;repeat' first|simp only[go_sem,seval,hlm]|refine sB ?_|(first|apply pX|apply bX)<;>intro hc|refine⟨oD,?_⟩|exact oD|fail
 refine aj (α:=Nat) (fun i=>l.length-i) (fun i=>⟨[(0, .v (.sl (l.map eg))),(1, .v (.fn (.func f))),(7, .v (.i .i64 l.length)),(8, .v (.i .i64 (i:Nat)))],[],_⟩) (fun i=>i≤l.length∧dA p i (l.drop i)=dA p 0 l) 0 (fun _=>au _) ⟨aL _,rfl⟩ ?_ ?_
 ·exact lE
 ·rintro i ⟨hi,hx⟩ R hR;rw[←hx]
  by_cases hlt:i<l.length
  ·have e1:=getD_map eg l kZ hlt;have hf:=h (l.getD i kZ);have hgo:=hR (i+1);rw[←hx,aR kZ hlt]at hgo;rw[aR kZ hlt];simp only[dA]at hgo⊢;clear hx hR h;obtain⟨b,hb⟩: ∃b,b=p (l.getD i kZ):=⟨_,rfl⟩;rw[←hb]at hf hgo⊢;clear hb;obtain⟨x,hxx⟩: ∃x,x=l.getD i kZ:=⟨_,rfl⟩;rw[←hxx]at e1 hf;clear hxx;cases x;simp only[eg]at e1 hf;cases b
   ·have hgo:=hgo ⟨by omega,rfl⟩ (by omega)
    repeat' first|simp only[go_sem,seval,hlm,e1]|refine cP hf ?_|refine sB ?_|(first|apply pX|apply bX)<;>intro hc|refine⟨oD,?_⟩|exact oD|fail
    refine hgo _ ?_;exact lE
   ·repeat' first|simp only[go_sem,seval,hlm,e1]|refine cP hf ?_|refine sB ?_|(first|apply pX|apply bX)<;>intro hc|refine⟨oD,?_⟩|exact oD|fail
    all_goals rfl
  ·obtain rfl:i=l.length:=by omega
   rw[cY];repeat' first|simp only[go_sem,seval,hlm]|refine sB ?_|(first|apply pX|apply bX)<;>intro hc|refine⟨oD,?_⟩|exact oD|fail
   all_goals simp[dA]
theorem fp (l:List (Bool×Bytes)) (f:FuncId) (p:(Bool×Bytes)→Bool) (hl:l.length<4611686018427387904) (h: ∀x,aD Tryz.prog f [eg x] (.b (p x))):aD Tryz.prog 172 [.sl (l.map eg), .fn (.func f)] (.b (l.any p)):=by
 have hi:=xF l f p hl h;have e:decide (dA p 0 l≥0)=l.any p:=by
  rw[dx,decide_eq_true_iff];exact gW
 refine eW Tryz.call172 Tryz.func172 ?_;repeat' first|simp only[go_sem,seval,e]|refine cP hi ?_|refine sB ?_|(first|apply pX|apply bX)<;>intro hc|refine⟨oD,?_⟩|exact oD|fail
theorem xI (l:List eE) (f:FuncId) (p:eE→Bool) (hl:l.length<4611686018427387904) (h: ∀x,aD Tryz.prog f [eE.pv x] (.b (p x))):aD Tryz.prog 379 [.sl (l.map eE.pv), .fn (.func f)] (E (dA p 0 l)):=by
 have hlm:(l.map eE.pv).length=l.length:=aH ..;refine eW Tryz.call379 Tryz.func379 ?_;repeat' first|simp only[go_sem,seval,hlm]|refine sB ?_|(first|apply pX|apply bX)<;>intro hc|refine⟨oD,?_⟩|exact oD|fail
 refine aj (α:=Nat) (fun i=>l.length-i) (fun i=>⟨[(0, .v (.sl (l.map eE.pv))),(1, .v (.fn (.func f))),(7, .v (.i .i64 l.length)),(8, .v (.i .i64 (i:Nat)))],[],_⟩) (fun i=>i≤l.length∧dA p i (l.drop i)=dA p 0 l) 0 (fun _=>au _) ⟨aL _,rfl⟩ ?_ ?_
 ·exact lE
 ·rintro i ⟨hi,hx⟩ R hR;rw[←hx]
  by_cases hlt:i<l.length
  ·have e1:=getD_map eE.pv l ku hlt;have hf:=h (l.getD i ku);have hgo:=hR (i+1);rw[←hx,aR ku hlt]at hgo;rw[aR ku hlt];simp only[dA]at hgo⊢;clear hx hR h;obtain⟨b,hb⟩: ∃b,b=p (l.getD i ku):=⟨_,rfl⟩;rw[←hb]at hf hgo⊢;clear hb;obtain⟨x,hxx⟩: ∃x,x=l.getD i ku:=⟨_,rfl⟩;rw[←hxx]at e1 hf;clear hxx;cases x;simp only[eE.pv]at e1 hf;cases b
   ·have hgo:=hgo ⟨by omega,rfl⟩ (by omega)
    repeat' first|simp only[go_sem,seval,hlm,e1]|refine cP hf ?_|refine sB ?_|(first|apply pX|apply bX)<;>intro hc|refine⟨oD,?_⟩|exact oD|fail
    refine hgo _ ?_;exact lE
   ·repeat' first|simp only[go_sem,seval,hlm,e1]|refine cP hf ?_|refine sB ?_|(first|apply pX|apply bX)<;>intro hc|refine⟨oD,?_⟩|exact oD|fail
    all_goals rfl
  ·obtain rfl:i=l.length:=by omega
   rw[cY];repeat' first|simp only[go_sem,seval,hlm]|refine sB ?_|(first|apply pX|apply bX)<;>intro hc|refine⟨oD,?_⟩|exact oD|fail
   all_goals simp[dA]
theorem rG (l:List eE) (f:FuncId) (p:eE→Bool) (hl:l.length<4611686018427387904) (h: ∀x,aD Tryz.prog f [eE.pv x] (.b (p x))):aD Tryz.prog 358 [.sl (l.map eE.pv), .fn (.func f)] (.b (l.any p)):=by
 have hi:=xI l f p hl h;have e:decide (dA p 0 l≥0)=l.any p:=by
  rw[dx,decide_eq_true_iff];exact gW
 refine eW Tryz.call358 Tryz.func358 ?_;repeat' first|simp only[go_sem,seval,e]|refine cP hi ?_|refine sB ?_|(first|apply pX|apply bX)<;>intro hc|refine⟨oD,?_⟩|exact oD|fail
theorem xJ (l:List fR) (f:FuncId) (c:List PV) (p:fR→Bool) (hl:l.length<4611686018427387904) (h: ∀x,aD Tryz.prog f (x.pv::c) (.b (p x))):aD Tryz.prog 380 [.sl (l.map fR.pv), .fc f [] c] (E (dA p 0 l)):=by
 have hlm:(l.map fR.pv).length=l.length:=aH ..;refine eW Tryz.call380 Tryz.func380 ?_;repeat' first|simp only[go_sem,seval,hlm]|refine sB ?_|(first|apply pX|apply bX)<;>intro hc|refine⟨oD,?_⟩|exact oD|fail
 refine aj (α:=Nat) (fun i=>l.length-i) (fun i=>⟨[(0, .v (.sl (l.map fR.pv))),(1, .v (.fc f [] c)),(7, .v (.i .i64 l.length)),(8, .v (.i .i64 (i:Nat)))],[],_⟩) (fun i=>i≤l.length∧dA p i (l.drop i)=dA p 0 l) 0 (fun _=>au _) ⟨aL _,rfl⟩ ?_ ?_
 ·exact lE
 ·rintro i ⟨hi,hx⟩ R hR;rw[←hx]
  by_cases hlt:i<l.length
  ·have e1:=getD_map fR.pv l ka hlt;have hf:=h (l.getD i ka);have hgo:=hR (i+1);rw[←hx,aR ka hlt]at hgo;rw[aR ka hlt];simp only[dA]at hgo⊢;clear hx hR h;obtain⟨b,hb⟩: ∃b,b=p (l.getD i ka):=⟨_,rfl⟩;rw[←hb]at hf hgo⊢;clear hb;obtain⟨x,hxx⟩: ∃x,x=l.getD i ka:=⟨_,rfl⟩;rw[←hxx]at e1 hf;clear hxx;cases x;simp only[fR.pv]at e1 hf;cases b
   ·have hgo:=hgo ⟨by omega,rfl⟩ (by omega)
    repeat' first|simp only[go_sem,seval,hlm,e1]|(refine dF hf (lT _ _) ?_)|refine sB ?_|(first|apply pX|apply bX)<;>intro hc|refine⟨oD,?_⟩|exact oD|fail
    refine hgo _ ?_;exact lE
   ·repeat' first|simp only[go_sem,seval,hlm,e1]|(refine dF hf (lT _ _) ?_)|refine sB ?_|(first|apply pX|apply bX)<;>intro hc|refine⟨oD,?_⟩|exact oD|fail
    all_goals rfl
  ·obtain rfl:i=l.length:=by omega
   rw[cY];repeat' first|simp only[go_sem,seval,hlm]|refine sB ?_|(first|apply pX|apply bX)<;>intro hc|refine⟨oD,?_⟩|exact oD|fail
   all_goals simp[dA]
theorem rH (l:List fR) (f:FuncId) (c:List PV) (p:fR→Bool) (hl:l.length<4611686018427387904) (h: ∀x,aD Tryz.prog f (x.pv::c) (.b (p x))):aD Tryz.prog 360 [.sl (l.map fR.pv), .fc f [] c] (.b (l.any p)):=by
 have hi:=xJ l f c p hl h;have e:decide (dA p 0 l≥0)=l.any p:=by
  rw[dx,decide_eq_true_iff];exact gW
 refine eW Tryz.call360 Tryz.func360 ?_;repeat' first|simp only[go_sem,seval,e]|refine cP hi ?_|refine sB ?_|(first|apply pX|apply bX)<;>intro hc|refine⟨oD,?_⟩|exact oD|fail
theorem xK (l:List Bytes) (f:FuncId) (p:Bytes→Bool) (hl:l.length<4611686018427387904) (h: ∀x,aD Tryz.prog f [dC x] (.b (p x))):aD Tryz.prog 365 [.sl (l.map dC), .fn (.func f)] (E (dA p 0 l)):=by
 have hlm:(l.map dC).length=l.length:=aH ..;refine eW Tryz.call365 Tryz.func365 ?_;repeat' first|simp only[go_sem,seval,hlm]|refine sB ?_|(first|apply pX|apply bX)<;>intro hc|refine⟨oD,?_⟩|exact oD|fail
 refine aj (α:=Nat) (fun i=>l.length-i) (fun i=>⟨[(0, .v (.sl (l.map dC))),(1, .v (.fn (.func f))),(7, .v (.i .i64 l.length)),(8, .v (.i .i64 (i:Nat)))],[],_⟩) (fun i=>i≤l.length∧dA p i (l.drop i)=dA p 0 l) 0 (fun _=>au _) ⟨aL _,rfl⟩ ?_ ?_
 ·exact lE
 ·rintro i ⟨hi,hx⟩ R hR;rw[←hx]
  by_cases hlt:i<l.length
  ·have e1:=getD_map dC l [] hlt;have hf:=h (l.getD i []);have hgo:=hR (i+1);rw[←hx,aR [] hlt]at hgo;rw[aR [] hlt];simp only[dA]at hgo⊢;clear hx hR h;generalize p (l.getD i [])=b at*;generalize l.getD i []=x at*;simp only[dC]at e1 hf;cases b
   ·have hgo:=hgo ⟨by omega,rfl⟩ (by omega)
    repeat' first|simp only[go_sem,seval,hlm,e1]|refine cP hf ?_|refine sB ?_|(first|apply pX|apply bX)<;>intro hc|refine⟨oD,?_⟩|exact oD|fail
    refine hgo _ ?_;exact lE
   ·repeat' first|simp only[go_sem,seval,hlm,e1]|refine cP hf ?_|refine sB ?_|(first|apply pX|apply bX)<;>intro hc|refine⟨oD,?_⟩|exact oD|fail
    all_goals rfl
  ·obtain rfl:i=l.length:=by omega
   rw[cY];repeat' first|simp only[go_sem,seval,hlm]|refine sB ?_|(first|apply pX|apply bX)<;>intro hc|refine⟨oD,?_⟩|exact oD|fail
   all_goals simp[dA]
theorem rI (l:List Bytes) (f:FuncId) (p:Bytes→Bool) (hl:l.length<4611686018427387904) (h: ∀x,aD Tryz.prog f [dC x] (.b (p x))):aD Tryz.prog 319 [.sl (l.map dC), .fn (.func f)] (.b (l.any p)):=by
 have hi:=xK l f p hl h;have e:decide (dA p 0 l≥0)=l.any p:=by
  rw[dx,decide_eq_true_iff];exact gW
 refine eW Tryz.call319 Tryz.func319 ?_;repeat' first|simp only[go_sem,seval,e]|refine cP hi ?_|refine sB ?_|(first|apply pX|apply bX)<;>intro hc|refine⟨oD,?_⟩|exact oD|fail
end Go.Proofs.YtmobkhegihemeaaGreatDoor
namespace Go.Proofs.YtmobkhegihemeaaGreatDoor
open Go Go.Dom Go.Num
set_option maxRecDepth 100000
set_option maxHeartbeats 16000000
theorem Hd {m:Bytes} (hm:m≠[]):(m.getD (m.length-1) 0).toNat%2=num m%2:=by
 obtain⟨r,c,rfl⟩: ∃r c,m=r++[c]:=⟨_,_,(List.dropLast_concat_getLast hm).symm⟩;rw[B4];have:(r++[c]).getD ((r++[c]).length-1) 0=c:=by simp[aX]
 rw[this];omega
theorem lU {m:Bytes} (lm:m.length≤8) {o:Bytes} (lo:o.length≤8):aD Tryz.prog 49 [G m o] (E (gE m o)):=by
 have v1:=aO m;have v2:=aO o;unfold gE
 by_cases hv:aa m=true∧aa o=true
 case neg=>
  have:(aa m&&aa o)=false:=by rw[fj];intro g;simp at g;exact hv g
  rw[this];generalize aa m=b1 at*;generalize aa o=b2 at*;refine eW Tryz.call49 Tryz.func49 ?_;repeat' first|simp only[go_sem,seval]|refine cP v1 ?_|refine cP v2 ?_|refine sB ?_|(first|apply pX|apply bX)<;>intro hc|refine⟨oD,?_⟩|exact oD|fail
  all_goals simp_all
 obtain⟨vm,vo⟩:=hv;have nm:=ep lm;have no:=ep lo;rw[vm]at v1;rw[vo]at v2
 by_cases ho:o=[]
 ·subst ho;have e0:(if !(aa m&&aa [])then(3:Int)else if(([]:Bytes)==[])then(if gV m []then 0 else 13)else if num m≤1∨num []≤1∨(num m-1)%num []≠0 then 13 else 0)=if gV m []then 0 else 13:=by
   rw[vm];rfl
  rw[e0]
  by_cases hm:m=[]
  ·subst hm;have:gV [] []=false:=by decide
   rw[this];refine eW Tryz.call49 Tryz.func49 ?_;repeat' first|simp only[go_sem,seval,nn]|refine cP v1 ?_|refine cP v2 ?_|refine sB ?_|(first|apply pX|apply bX)<;>intro hc|refine⟨oD,?_⟩|exact oD|fail
  have hb:(m==([]:Bytes))=false:=by simpa using hm
  have hl:=Hd hm;have hlen:0<m.length:=ky.2 hm;have hix: ∀ _:True,((m.length:Int)-1).toNat=m.length-1:=fun _=>by omega
  have hmod: ∀c:UInt8,((c.toNat:Nat):Int).tmod 2=((c.toNat%2:Nat):Int):=fun c=>rfl
  have ho8:=kI (a:=m) (b:=[8]) (bE vm) (.inr (by decide)) (by omega) (by decide)
  rw[show num ([8]:Bytes)=8 from rfl]at ho8
  have hle: ∀ _:True,decide (a6 (num m) 8≤0)= !decide (8<num m):=fun _=>by
   rw[dx];simp only[decide_eq_true_eq,fF,decide_eq_false_iff_not];unfold a6;split<;>(try split)<;>omega
  have hg:gV m []=(decide (num m%2=1)&&decide (8<num m)):=by
   unfold gV;rw[vm,jS,Nat.pow_zero,iY];rfl
  rw[hg,←hl];generalize a6 (num m) 8=cm at*;obtain⟨c,hcc⟩: ∃c,c=m.getD (m.length-1) 0:=⟨_,rfl⟩;rw[←hcc];clear hl hg e0;refine eW Tryz.call49 Tryz.func49 ?_;repeat' first|simp only[go_sem,seval,nn,hb,hix trivial,←hcc,hmod,hle trivial]|refine cP v1 ?_|refine cP v2 ?_|refine cP ho8 ?_|refine sB ?_|(first|apply pX|apply bX)<;>intro hc|refine⟨oD,?_⟩|exact oD|fail
  all_goals first|(simp_all;done)|(simp_all;omega)|skip
 have hb:(o==([]:Bytes))=false:=by simpa using ho
 have hop:num o≠0:=fun e=>ho ((qB vo).1 e)
 have e1:N (num m)= .s m:=congrArg PV.s (fW vm);have e2:N (num o)= .s o:=congrArg PV.s (fW vo);rw[vm,vo,hb];simp only[dh,bu,aW,if_false];have q0:(m==([]:Bytes))=decide (num m=0):=by
  have:=sS (num m) 0;rw[fW vm]at this;exact this
 have q1:(m==([1]:Bytes))=decide (num m=1):=by
  have:=sS (num m) 1;rw[fW vm]at this;exact this
 have q2:(o==([1]:Bytes))=decide (num o=1):=by
  have:=sS (num o) 1;rw[fW vo]at this;exact this
 by_cases hbad:num m=0∨num m=1∨num o=1
 ·rw[if_pos (by omega)]
  refine eW Tryz.call49 Tryz.func49 ?_;repeat' first|simp only[go_sem,seval,hb,q0,q1,q2]|refine cP v1 ?_|refine cP v2 ?_|refine sB ?_|(first|apply pX|apply bX)<;>intro hc|refine⟨oD,?_⟩|exact oD|fail
  all_goals (exfalso;simp_all)
 have h1:=sC m [1] (by omega) (by decide) (show 1≤num m by omega)
 rw[show num ([1]:Bytes)=1 from rfl]at h1
 have h2:=xb (a:=aP (num m-1)) (b:=o) (gH _) (bE vo) (by omega) (by
  have:=lN (show num m-1<18446744073709551616 by omega)
  omega) (by omega)
 rw[aK]at h2;have hz: ∀ _:True,(aP ((num m-1)%num o)==([]:Bytes))=decide ((num m-1)%num o=0):=fun _=>by
  rw[dx];simp[gI]
 have t0:decide (num m=0)=false:=decide_eq_false (by omega)
 have t1:decide (num m=1)=false:=decide_eq_false (by omega)
 have t2:decide (num o=1)=false:=decide_eq_false (by omega)
 have ei:(if num m≤1∨num o≤1∨(num m-1)%num o≠0 then(13:Int)else 0)=if(num m-1)%num o=0 then 0 else 13:=by
  by_cases g:(num m-1)%num o=0
  ·rw[if_neg (by omega),if_pos g]
  ·rw[if_pos (by omega),if_neg g]
 rw[ei];refine eW Tryz.call49 Tryz.func49 ?_;repeat' first|simp only[go_sem,seval,hb,q0,q1,q2,t0,t1,t2,hz trivial]|refine cP v1 ?_|refine cP v2 ?_|refine cP h1 ?_|refine cP h2 ?_|refine sB ?_|(first|apply pX|apply bX)<;>intro hc|refine⟨oD,?_⟩|exact oD|fail
 all_goals simp_all
theorem oF {m:Bytes} (lm:m.length≤8) (o:Bytes) {x:Bytes} (hE:gE m o=0) (vx:aa x=true):aD Tryz.prog 50 [G m o, .s x] (.b (jg m o x)):=by
 by_cases ho:o=[]
 ·subst ho;obtain⟨vm,-,m1,hr,-⟩:=jY hE;have hg:=hr rfl;have lx:=cI vx;have hor:=kI (bE vx) (bE vm) (by omega) (by omega)
  have hcm:=KP (sk vx) (sk vm);rw[fq vx,fq vm]at hcm;have hlt: ∀ _:True,decide (a6 (num x) (num m)<0)=decide (num x<num m):=fun _=>WZ _ _
  have e:jg m [] x=(!(x==[])&&decide (num x<num m)&&decide (Nat.gcd (num x) (num m)=1)):=by
   simp[jg,w9,hg,vx]
  rw[e];generalize a6 (num x) (num m)=cm at*;refine eW Tryz.call50 Tryz.func50 ?_;repeat' first|simp only[go_sem,seval,nn,hlt trivial,NS]|refine cP hor ?_|refine cP hcm ?_|refine sB ?_|(first|apply pX|apply bX)<;>intro hc|refine⟨oD,?_⟩|exact oD|fail
  all_goals simp_all
  all_goals (intros;omega)
 ·have hb:(o==([]:Bytes))=false:=by simpa using ho
  have h:=KO lm o x;unfold jg;rw[hb];simp only[aW,if_false];refine eW Tryz.call50 Tryz.func50 ?_;repeat' first|simp only[go_sem,seval,hb]|refine cP h ?_|refine sB ?_|(first|apply pX|apply bX)<;>intro hc|refine⟨oD,?_⟩|exact oD|fail
theorem yK {m:Bytes} (lm:m.length≤8) {o:Bytes} (lo:o.length≤8) (x:Bytes):aD Tryz.prog 40 [G m o, .s x] (.b (kG m o x)):=by
 have h1:=lU lm lo;have hv:=aO x
 by_cases hE:gE m o=0
 ·rw[hE]at h1
  by_cases vx:aa x=true
  ·have h2:=oF lm o hE vx;rw[vx]at hv;unfold kG;rw[hE];generalize jg m o x=b at*;refine eW Tryz.call40 Tryz.func40 ?_;repeat' first|simp only[go_sem,seval]|refine cP h1 ?_|refine cP hv ?_|refine cP h2 ?_|refine sB ?_|(first|apply pX|apply bX)<;>intro hc|refine⟨oD,?_⟩|exact oD|fail
   all_goals simp_all
  ·have vx:aa x=false:=by simpa using vx
   rw[vx]at hv;have:kG m o x=false:=by
    rw[fj];intro g;simp only[kG,aZ]at g;have:=((dp hE).1 g.2).1;rw[vx]at this;cases this
   rw[this];refine eW Tryz.call40 Tryz.func40 ?_;repeat' first|simp only[go_sem,seval]|refine cP h1 ?_|refine cP hv ?_|refine sB ?_|(first|apply pX|apply bX)<;>intro hc|refine⟨oD,?_⟩|exact oD|fail
 ·have:kG m o x=false:=by simp[kG,hE]
  rw[this];generalize gE m o=z at*;refine eW Tryz.call40 Tryz.func40 ?_;repeat' first|simp only[go_sem,seval]|refine cP h1 ?_|refine sB ?_|(first|apply pX|apply bX)<;>intro hc|refine⟨oD,?_⟩|exact oD|fail
  all_goals simp_all
theorem HG {m:Bytes} (lm:m.length≤8) {o:Bytes} {x:Nat} {ng:Bool} {e:Bytes} (hE:gE m o=0) (hx:GP m o x) (he:aa e=true) (hz:(ng&&e==[])=false):aD Tryz.prog 52 [G m o,N x, .agg [.b ng, .s e]] (N (cL (num m) x ng (num e))):=by
 obtain⟨vm,-,m1,-,-⟩:=jY hE;have hp:=HK (m:=num m) hx.lt he hz (ep lm) hx.O9;rw[fq vm]at hp;refine eW Tryz.call52 Tryz.func52 ?_;repeat' first|simp only[go_sem,seval]|refine cP hp ?_|refine sB ?_|(first|apply pX|apply bX)<;>intro hc|refine⟨oD,?_⟩|exact oD|fail
noncomputable def kS (M:Nat):Nat→List (Nat×Bool×Bytes)→Nat
 |x,[]=>x
 |x,(a,ng,e)::r=>kS M (x*cL M a ng (num e)%M) r
end Go.Proofs.YtmobkhegihemeaaGreatDoor
