/-
  Part of the proof, part KR25. Own work.
-/
import Derived.Test.YtmobkhegihemeaaGreatDoorKR24
set_option linter.all false
namespace Go.Num
def Pr (n:Nat):Prop:=2≤n∧ ∀d,d∣n→d=1∨d=n
theorem Pr.LZ {p a:Nat} (h:Pr p) (ha: ¬p∣a):Nat.Coprime a p:=by
 rcases h.2 _ (Nat.gcd_dvd_right a p)with e|e
 ·exact e
 ·exact absurd (e▸Nat.gcd_dvd_left a p) ha
def bC:List Nat:=[2,3,5,7,11,13,17,19,23,29,31,37]
def NU:Nat→Nat→Nat
 |0,_=>0
 |f+1,n=>if n%2=1 then 0 else NU f (n/2)+1
def NC:Nat→Nat→Nat→Bool
 |0,_,_=>false
 |k+1,x,n=>x*x%n==n-1||NC k (x*x%n) n
def qY (n s d a:Nat):Bool:=(a%n)^d%n==1||(a%n)^d%n==n-1||NC (s-1) ((a%n)^d%n) n
def cT (n:Nat):Bool:=
 if n<2 then false else
 match bC.find? fun p=>n%p==0 with
 |some p=>n==p
 |none=>bC.all fun a=>qY n (NU 64 (n-1)) ((n-1)/2^NU 64 (n-1)) a
def E8 (n:Nat):Bool:=cT n&&cT ((n-1)/2)
end Go.Num
namespace Go.Proofs.YtmobkhegihemeaaGreatDoor
open Go Go.Dom Go.Num
set_option maxRecDepth 100000
set_option maxHeartbeats 4000000
def Ki:List PV:=bC.map fun p:Nat=> .i .u64 (p:Int)
theorem za:aB Tryz.prog 131 [] (.agg Ki):=by
 refine eW Tryz.call131 Tryz.func131 ?_;repeat' first|simp only[go_sem,seval]|refine sB ?_|(first|apply pX|apply bX)<;>intro hc|refine⟨oD,?_⟩|exact oD|fail
 rfl
theorem qK {a b m:Nat} (ha:a<m) (hb:b<m) (hm:m<18446744073709551616):aB Tryz.prog 134 [.i .u64 a, .i .u64 b, .i .u64 m] (.i .u64 (a*b%m:Nat)):=by
 have h1:=lG a b (by omega) (by omega)
 have hp:a*b<m*18446744073709551616:=Nat.lt_of_lt_of_le (Nat.mul_lt_mul_of_lt_of_le ha (Nat.le_of_lt hb) (by omega)) (Nat.mul_le_mul_left m (by omega))
 have h2:a*b/18446744073709551616<m:=(Nat.div_lt_iff_lt_mul (by decide)).2 hp
 have h3:=vC (a*b/18446744073709551616) (a*b%18446744073709551616) m h2 (Nat.mod_lt _ (by decide)) hm
 have e:a*b/18446744073709551616*18446744073709551616+a*b%18446744073709551616=a*b:=by omega
 rw[e]at h3;refine eW Tryz.call134 Tryz.func134 ?_;repeat' first|simp only[go_sem,seval]|refine cP h1 ?_|refine cP h3 ?_|refine sB ?_|(first|apply pX|apply bX)<;>intro hc|refine⟨oD,?_⟩|exact oD|fail
theorem Bb (b k m:Nat):(b*b%m)^(k/2)%m=b^(2*(k/2))%m:=by rw[←Nat.pow_mod,←Nat.pow_two,←Nat.pow_mul]
theorem Na {x b k m:Nat} (h:k%2=1):x*b%m*(b*b%m)^(k/2)%m=x*b^k%m:=by
 rw[Nat.mul_mod,Bb,Nat.mod_mod,←Nat.mul_mod,Nat.mul_assoc,←Nat.pow_succ'];congr 3;omega
theorem Jh {x b k m:Nat} (h:k%2=0):x*(b*b%m)^(k/2)%m=x*b^k%m:=by
 rw[Nat.mul_mod,Bb,←Nat.mul_mod];congr 3;omega
theorem Ga {a e m:Nat} (ha:a<m) (he:e<18446744073709551616) (hm:m<18446744073709551616):aB Tryz.prog 133 [.i .u64 a, .i .u64 e, .i .u64 m] (.i .u64 (a^e%m:Nat)):=by
 refine eW Tryz.call133 Tryz.func133 ?_;repeat' first|simp only[go_sem,seval]|refine sB ?_|(first|apply pX|apply bX)<;>intro hc|refine⟨oD,?_⟩|exact oD|fail
 refine aj (α:=Nat×Nat×Nat) (fun x=>x.2.1) (fun x=>⟨[(0,U x.1),(1,U x.2.1),(2,U m),(7,U x.2.2)],[],_⟩) (fun x=>x.1<m∧x.2.1<18446744073709551616∧x.2.2<m∧x.2.2*x.1^x.2.1%m=a^e%m) (a,e,1%m) (fun _=>Nat.le_refl _) ⟨ha,he,Nat.mod_lt _ (by omega),by show 1%m*a^e%m= _;rw[Nat.mul_mod,Nat.mod_mod,←Nat.mul_mod,Nat.one_mul]⟩ ?_ ?_
 ·(refine AS.Le.of (by first|decide|omega) ?_ ?_<;>simp[bL,bK,aD,ai,AV.bd,AV.bd.bdL,u8,af,ah,ak])
  rfl
 ·rintro⟨b,k,x⟩ ⟨h1,h2,h3,h4⟩ R hR;simp only at h1 h2 h3 h4;have hs:=qK h1 h1 hm;have hx:=qK h3 h1 hm;have hk:k/2<18446744073709551616:=by omega
  repeat' first|simp only[go_sem,seval,uw,Nat.mod_eq_of_lt hk]|refine cP hs ?_|refine cP hx ?_|refine sB ?_|(first|apply pX|apply bX)<;>intro hc|refine⟨oD,?_⟩|exact oD|fail
  ·refine hR (b*b%m,k/2,x*b%m) ⟨Nat.mod_lt _ (by omega),hk,Nat.mod_lt _ (by omega),?_⟩ (by show k/2<k;omega) _ ?_
   ·show x*b%m*(b*b%m)^(k/2)%m= _;rw[Na (by omega),h4]
   ·exact lE
  ·refine hR (b*b%m,k/2,x) ⟨Nat.mod_lt _ (by omega),hk,h3,?_⟩ (by show k/2<k;omega) _ ?_
   ·show x*(b*b%m)^(k/2)%m= _;rw[Jh (by omega),h4]
   ·exact lE
  ·obtain rfl:k=0:=by omega
   rw[←h4,Nat.pow_zero,Nat.mul_one,Nat.mod_eq_of_lt h3]
theorem KN: ∀f x,Lib.ctzFrom f x=NU f x
 |0,x=>rfl
 |f+1,x=>by simp only[Lib.ctzFrom,NU,KN f (x/2)];split<;>omega
theorem Ov {i:Nat} (h:i<12):(List.map AV.v Ki).getD i .u=U (bC.getD i 0):=by
 have: ∀i:Fin 12,(List.map AV.v Ki).getD i.val .u=U (bC.getD i.val 0):=by
  intro i;rcases i with⟨i,hi⟩
  have h2:i<bC.length:=hi;simp[Ki,List.getD_eq_getElem?_getD,h2]
 exact this ⟨i,h⟩
theorem Ow {i:Nat} (h:i<12):0<bC.getD i 0∧bC.getD i 0<38:=by
 have: ∀i:Fin 12,0<bC.getD i.val 0∧bC.getD i.val 0<38:=by decide
 exact this ⟨i,h⟩
theorem Kh {i:Nat} (h:i<12):bC.drop i=bC.getD i 0::bC.drop (i+1):=by
 have h2:i<bC.length:=h;rw[List.drop_eq_getElem_cons h2,List.getD_eq_getElem?_getD,List.getElem?_eq_getElem h2];rfl
theorem Jn {n:Nat} (hn:n<18446744073709551616):aB Tryz.prog 76 [.i .u64 n] (.b (cT n)):=by
 by_cases h2:n<2
 ·have e:cT n=false:=by simp[cT,h2]
  rw[e];refine eW Tryz.call76 Tryz.func76 ?_;repeat' first|simp only[go_sem,seval]|refine sB ?_|(first|apply pX|apply bX)<;>intro hc|refine⟨oD,?_⟩|exact oD|fail
 have hb:=za;have hL:(List.map AV.v Ki).length=12:=rfl;refine eW Tryz.call76 Tryz.func76 ?_;repeat' first|simp only[go_sem,seval]|refine cP hb ?_|refine sB ?_|(first|apply pX|apply bX)<;>intro hc|refine⟨oD,?_⟩|exact oD|fail
 refine aj (α:=Nat) (fun i=>12-i) (fun i=>⟨[(0,U n),(13, .v (.agg Ki)),(14,E' i)],[],_⟩) (fun i=>i≤12∧bC.find? (fun p=>n%p==0)=(bC.drop i).find? (fun p=>n%p==0)) 0 (fun _=>Nat.le_refl _) ⟨by omega,rfl⟩ ?_ ?_
 ·exact lE
 ·rintro i ⟨hi,hf⟩ R hR
  by_cases hlt:i<12
  ·have g1:=Ov hlt;obtain⟨q0,q1⟩:=Ow hlt;rw[Kh hlt]at hf;generalize bC.getD i 0=q at*;repeat' first|simp only[go_sem,seval,g1,hL]|refine sB ?_|(first|apply pX|apply bX)<;>intro hc|refine⟨oD,?_⟩|exact oD|fail
   ·have hz:(n%q==0)=true:=by rw[beq_iff_eq];omega
    rw[List.find?_cons,hz]at hf;unfold cT;rw[if_neg h2,hf];congr 1;rw[Bool.eq_iff_iff];simp only[beq_iff_eq];omega
   ·have hz:(n%q==0)=false:=by rw[beq_eq_false_iff_ne];omega
    rw[List.find?_cons,hz]at hf;refine hR (i+1) ⟨by omega,hf⟩ (by omega) _ ?_
    exact lE
  ·obtain rfl:i=12:=by omega
   have hf:bC.find? (fun p=>n%p==0)=none:=hf
   obtain⟨s,hs⟩: ∃s,s=NU 64 (n-1):=⟨_,rfl⟩;obtain⟨d,hd⟩: ∃d,d=(n-1)/2^s:=⟨_,rfl⟩;have hz:=kP (n-1) (by omega) (by omega)
   have hs64:=(Lib.lowest_bit 64 (n-1) (by omega) (by show n-1<18446744073709551616;omega)).2
   have hzs:Lib.ctz 64 (n-1)=s:=by rw[Lib.ctz,if_neg (by omega),KN,hs]
   rw[hzs]at hz hs64;have hdl:d<18446744073709551616:=by rw[hd];exact Nat.lt_of_le_of_lt (Nat.div_le_self _ _) (by omega)
   have e1: ∀ _:True,((n:Int)-1)=((n-1:Nat):Int):=fun _=>by omega
   have e2: ∀ _:True,(if s≤64 then s else 64)=s:=fun _=>by split<;>omega
   have e3: ∀ _:True,(n-1)/2^s=d:=fun _=>hd.symm
   have key:cT n=bC.all (qY n s d):=by
    unfold cT;rw[if_neg h2,hf,←hs,←hd]
   rw[key];clear key hf hzs hs hd;repeat' first|simp only[go_sem,seval,e1 trivial,e2 trivial,e3 trivial]|refine cP hz ?_|refine cP hb ?_|refine sB ?_|(first|apply pX|apply bX)<;>intro hc|refine⟨oD,?_⟩|exact oD|fail
   refine aj (α:=Nat) (fun i=>12-i) (fun i=>⟨[(0,U n),(5,E' s),(6,U d),(32, .v (.agg Ki)),(33,E' i)],[],_⟩) (fun i=>i≤12∧bC.all (qY n s d)=(bC.drop i).all (qY n s d)) 0 (fun _=>Nat.le_refl _) ⟨by omega,rfl⟩ ?_ ?_
   ·exact lE
   ·rintro i ⟨hi,hf⟩ R hR
    by_cases hlt:i<12
    ·have g1:=Ov hlt;obtain⟨q0,q1⟩:=Ow hlt;rw[Kh hlt,List.all_cons]at hf;have hR1:=hR (i+1);generalize bC.getD i 0=q at*;have hq:q%n<n:=Nat.mod_lt _ (by omega)
     have hp:=Ga hq hdl hn;obtain⟨x,hx⟩: ∃x,x=(q%n)^d%n:=⟨_,rfl⟩;have hxl:x<n:=by rw[hx];exact Nat.mod_lt _ (by omega)
     have hst:qY n s d q=(x==1||x==n-1||NC (s-1) x n):=by rw[hx];rfl
     rw[←hx]at hp;clear hx;repeat' first|simp only[go_sem,seval,g1,hL,e1 trivial]|refine cP hp ?_|refine sB ?_|(first|apply pX|apply bX)<;>intro hc|refine⟨oD,?_⟩|exact oD|fail
     ·have hx1:x=1:=by omega
      refine hR1 ⟨by omega,by rw[hf,hst,hx1];simp⟩ (by omega) _ ?_
      exact lE
     ·have hx1:x=n-1:=by omega
      refine hR1 ⟨by omega,by rw[hf,hst,hx1];simp⟩ (by omega) _ ?_
      exact lE
     ·have hx1:(x==1)=false:=by rw[beq_eq_false_iff_ne];omega
      have hx2:(x==n-1)=false:=by rw[beq_eq_false_iff_ne];omega
      rw[hx1,hx2,Bool.false_or,Bool.false_or]at hst;refine aj (α:=Nat×Nat) (fun z=>s-z.1) (fun z=>⟨[(0,U n),(5,E' s),(6,U d),(32, .v (.agg Ki)),(33,E' i),(9,U z.2),(10,E' z.1)],[],_⟩) (fun z=>1≤z.1∧z.2<n∧NC (s-z.1) z.2 n=NC (s-1) x n) (1,x) (fun _=>Nat.le_refl _) ⟨Nat.le_refl 1,hxl,rfl⟩ ?_ ?_
      ·exact lE
      ·rintro⟨j,y⟩ ⟨hj,hy,hz⟩ R' hR';simp only at hj hy hz;have hm:=qK hy hy hn;obtain⟨w,hw⟩: ∃w,w=y*y%n:=⟨_,rfl⟩;have hwl:w<n:=by rw[hw];exact Nat.mod_lt _ (by omega)
       have hz':j<s→(w==n-1||NC (s-(j+1)) w n)=NC (s-1) x n:=by
        intro g;rw[←hz,show s-j=s-(j+1)+1 by omega,hw];rfl
       rw[←hw]at hm;clear hw;repeat' first|simp only[go_sem,seval,e1 trivial]|refine cP hm ?_|refine sB ?_|(first|apply pX|apply bX)<;>intro hc|refine⟨oD,?_⟩|exact oD|fail
       ·have hw1:w=n-1:=by omega
        have:=hz' (by omega)
        rw[hw1,beq_self_eq_true,Bool.true_or]at this;refine hR1 ⟨by omega,by rw[hf,hst,←this,Bool.true_and]⟩ (by omega) _ ?_
        exact lE
       ·have hw1:(w==n-1)=false:=by rw[beq_eq_false_iff_ne];omega
        have:=hz' (by omega)
        rw[hw1,Bool.false_or]at this;refine hR' (j+1,w) ⟨by show 1≤j+1;omega,hwl,this⟩ (by show s-(j+1)<s-j;omega) _ ?_
        exact lE
       ·rw[hf,hst,←hz,show s-j=0 by omega];rfl
    ·obtain rfl:i=12:=by omega
     repeat' first|simp only[go_sem,seval]|refine sB ?_|(first|apply pX|apply bX)<;>intro hc|refine⟨oD,?_⟩|exact oD|fail
     rw[hf];rfl
theorem zc (a:Bytes):aB Tryz.prog 75 [.s a] (.tup [.i .u64 (if aa a&&decide (a.length≤8)then num a else 0),E (if aa a then(if a.length≤8 then 0 else 5)else 3)]):=by
 have hs:=iW a;have hv:=aF a;refine eW Tryz.call75 Tryz.func75 ?_;repeat' first|simp only[go_sem,seval]|refine cP hv ?_|refine cP hs ?_|refine sB ?_|(first|apply pX|apply bX)<;>intro hc|refine⟨oD,?_⟩|exact oD|fail
 all_goals (simp_all<;>omega)
def eC (a:Bytes):Int:=if aa a then(if a.length≤8 then 0 else 5)else 3
theorem sS (a:Bytes):aB Tryz.prog 29 [.s a] (.tup [.b (aa a&&decide (a.length≤8)&&cT (num a)),E (eC a)]):=by
 have hs:=zc a
 by_cases h:aa a=true∧a.length≤8
 ·obtain⟨h1,h2⟩:=h;have e:eC a=0:=by simp[eC,h1,h2]
  rw[h1,decide_eq_true h2]at hs;have hi:=Jn (cE h2);rw[h1,decide_eq_true h2,e];refine eW Tryz.call29 Tryz.func29 ?_;repeat' first|simp only[go_sem,seval,if_true,if_pos h2]|refine cP hs ?_|refine cP hi ?_|refine sB ?_|(first|apply pX|apply bX)<;>intro hc|refine⟨oD,?_⟩|exact oD|fail
  all_goals skip
 ·have h0:(aa a&&decide (a.length≤8))=false:=by
   rw[Bool.eq_false_iff];intro g;simp at g;exact h g
  have e:eC a≠0:=by
   unfold eC;split
   ·rename_i g;rw[if_neg (fun g2=>h ⟨g,g2⟩)];decide
   ·decide
  rw[h0]at hs⊢;have e2:(if aa a then(if a.length≤8 then(0:Int)else 5)else 3)=eC a:=rfl
  rw[e2]at hs;refine eW Tryz.call29 Tryz.func29 ?_;repeat' first|simp only[go_sem,seval]|refine cP hs ?_|refine sB ?_|(first|apply pX|apply bX)<;>intro hc|refine⟨oD,?_⟩|exact oD|fail
  all_goals skip
end Go.Proofs.YtmobkhegihemeaaGreatDoor
namespace Go.Proofs.YtmobkhegihemeaaGreatDoor
open Go Go.Dom
set_option maxRecDepth 100000
set_option maxHeartbeats 4000000
def rK (l:List Bytes) (m:Bytes):Int:=if l.all aa&&aa m then(if m=[]then 11 else 0)else 3
theorem LU (nm:Nat) (a m:Bytes):ew Tryz.prog 161 nm [] [.fs [.s a], .fs [.s m]] (.v (E (rK [a] m))) []:=by
 refine ew.w mixed Tryz.call161 Tryz.func161 rfl (eT.1 _ _ _ (by cbv)) (eT.2 _ _ (by cbv)) (obs:=[]) (args:=[.fs [.s a], .fs [.s m]]) (fs:=[]) (j:=none) (nw:=none) (v:= .v (E (rK [a] m))) (ns:=[]) (obsA:=[]) rfl ?_ (by simp) (by simp) rfl rfl (by simp[aI,AV.aC]) (by simp[AV.aC]) (by simp[cI,outs])
 have va:=aF a;have vm:=aF m;simp only[go_sem,seval];repeat' first|simp only[go_sem,seval,true_or,or_true,false_or,or_false,Option.some.injEq,dN,b9,dH,c9,da,ca,jm,jG,dq,dK,br,az,AV.aC,AV.aC.renL,ar,List.getD_cons_zero,List.getD_cons_succ]|refine cP va ?_|refine cP vm ?_|(refine ae ?_)|refine sB ?_|(first|apply pX|apply bX)<;>intro hc|refine⟨oD,?_⟩|exact oD|fail
 all_goals simp_all[rK]
theorem tH (nm:Nat) (a b m:Bytes):ew Tryz.prog 161 nm [] [.fs [.s a, .s b], .fs [.s m]] (.v (E (rK [a,b] m))) []:=by
 refine ew.w mixed Tryz.call161 Tryz.func161 rfl (eT.1 _ _ _ (by cbv)) (eT.2 _ _ (by cbv)) (obs:=[]) (args:=[.fs [.s a, .s b], .fs [.s m]]) (fs:=[]) (j:=none) (nw:=none) (v:= .v (E (rK [a,b] m))) (ns:=[]) (obsA:=[]) rfl ?_ (by simp) (by simp) rfl rfl (by simp[aI,AV.aC]) (by simp[AV.aC]) (by simp[cI,outs])
 have va:=aF a;have vb:=aF b;have vm:=aF m;simp only[go_sem,seval];repeat' first|simp only[go_sem,seval,true_or,or_true,false_or,or_false,Option.some.injEq,dN,b9,dH,c9,da,ca,jm,jG,dq,dK,br,az,AV.aC,AV.aC.renL,ar,List.getD_cons_zero,List.getD_cons_succ]|refine cP va ?_|refine cP vb ?_|refine cP vm ?_|(refine ae ?_)|refine sB ?_|(first|apply pX|apply bX)<;>intro hc|refine⟨oD,?_⟩|exact oD|fail
 all_goals simp_all[rK]
theorem OC {a m:Nat} (ha:a<18446744073709551616) (hm:m<18446744073709551616) (h0:0<m):rK [aK a] (aK m)=0:=by
 have:aK m≠[]:=fun h=>by rw[eV]at h;omega
 simp[rK,vN ha,vN hm,this]
theorem Aj {a m:Nat} {e:Bytes} (ha:a<18446744073709551616) (he:aa e=true) (hm:m<18446744073709551616) (h0:0<m):rK [aK a,e] (aK m)=0:=by
 have:aK m≠[]:=fun h=>by rw[eV]at h;omega
 simp[rK,vN ha,he,vN hm,this]
theorem ym {a:Nat} (h:a<18446744073709551616):aB Tryz.prog 130 [N a] (.tup [.i .u64 a, .b true]):=by
 have:=iW (aK a);rw[vN h,decide_eq_true (lN h),aG]at this;exact this
theorem zH {a b m:Nat} (ha:a<18446744073709551616) (hb:b<18446744073709551616) (hm:m<18446744073709551616) (h0:0<m):aB Tryz.prog 164 [N a,N b,N m] (N (a*b%m)):=by
 have la:=lN ha;have lb:=lN hb;have lm:=lN hm;have h1:a%m<18446744073709551616:=Nat.lt_of_le_of_lt (Nat.mod_le _ _) ha;have h2:b%m<18446744073709551616:=Nat.lt_of_le_of_lt (Nat.mod_le _ _) hb;have hq:=lG (a%m) (b%m) h1 h2;have h3:a%m*(b%m)/18446744073709551616<18446744073709551616:=(Nat.div_lt_iff_lt_mul (by decide)).2 (Nat.mul_lt_mul'' h1 h2)
 have hr:=Dy (a%m*(b%m)/18446744073709551616) (a%m*(b%m)%18446744073709551616) m h0 h3 (Nat.mod_lt _ (by decide)) hm
 have e:a%m*(b%m)/18446744073709551616*18446744073709551616+a%m*(b%m)%18446744073709551616=a%m*(b%m):=by omega
 rw[e,←Nat.mul_mod]at hr;have ho:=fI (a*b%m) (Nat.lt_trans (Nat.mod_lt _ h0) hm);have sa:=ym ha;have sb:=ym hb;have sm:=ym hm;clear h3 e h1 h2;refine eW Tryz.call164 Tryz.func164 ?_;repeat' first|simp only[go_sem,seval]|refine cP sa ?_|refine cP sb ?_|refine cP sm ?_|refine cP hq ?_|refine cP hr ?_|refine cP ho ?_|refine sB ?_|(first|apply pX|apply bX)<;>intro hc|refine⟨oD,?_⟩|exact oD|fail
theorem fS {a m:Nat} (ha:a<18446744073709551616) (hm:m<18446744073709551616) (h0:0<m):aB Tryz.prog 162 [N a,N m] (N (a%m)):=by
 refine eW Tryz.call162 Tryz.func162 ?_;repeat' first|simp only[go_sem,seval]|refine cP (lC ha hm h0) ?_|refine sB ?_|(first|apply pX|apply bX)<;>intro hc|refine⟨oD,?_⟩|exact oD|fail
theorem jU {a b m:Nat} (ha:a<18446744073709551616) (hb:b<18446744073709551616) (hm:m<18446744073709551616) (h0:0<m):aB Tryz.prog 128 [N a,N b,N m] (.tup [N (a*b%m),E 0]):=by
 have hc:=fun nm=>tH nm (aK a) (aK b) (aK m)
 rw[Aj ha (vN hb) hm h0]at hc;refine eW Tryz.call128 Tryz.func128 ?_;repeat' first|simp only[go_sem,seval]|(refine aP (hc _) (by simp) ?_)|refine cP (zH ha hb hm h0) ?_|refine sB ?_|(first|apply pX|apply bX)<;>intro hc|refine⟨oD,?_⟩|exact oD|fail
theorem B1 (e:Bytes):aB Tryz.prog 163 [.s e] (.fc 239 [] [.pt (.agg [.s e]) 0]):=by
 refine eW Tryz.call163 Tryz.func163 ?_;repeat' first|simp only[go_sem,seval]|refine sB ?_|(first|apply pX|apply bX)<;>intro hc|refine⟨oD,?_⟩|exact oD|fail
theorem wk (n:Nat): ∀k,∀y∈yK n k,y.length=1
 |0,y,h=>by cases h
 |k+1,y,h=>by
  rcases List.mem_cons.1 h with rfl|h
  ·rfl
  ·exact wk n k y h
theorem cA:(.s [1]:PV)=N 1:=rfl
theorem KL {a z m:Nat}:a^z%m*(a^z%m)%m=a^(2*z)%m:=by rw[←Nat.mul_mod,←Nat.pow_add,Nat.two_mul]
theorem NB {a z m:Nat}:a^z%m*(a^z%m)%m*(a%m)%m=a^(2*z+1)%m:=by rw[KL,←Nat.mul_mod,←Nat.pow_succ]
theorem N9 {a m:Nat} {e:Bytes} (ha:a<18446744073709551616) (he:aa e=true) (hm:m<18446744073709551616) (h0:0<m):aB Tryz.prog 108 [N a, .s e,N m] (.tup [N (a^num e%m),E 0]):=by
 have hc:=fun nm=>tH nm (aK a) e (aK m)
 rw[Aj ha he hm h0]at hc;have h1:=fS (a:=1) (by decide) hm h0
 refine eW Tryz.call108 Tryz.func108 ?_;simp only[go_sem,seval,cA];repeat' first|simp only[go_sem,seval,cA]|(refine aP (hc _) (by simp) ?_)|refine cP (fS ha hm h0) ?_|refine cP h1 ?_|refine cP (B1 e) ?_|(refine Dq (BZ e he) rfl (wk _ _) ?_)|refine sB ?_|(first|apply pX|apply bX)<;>intro hc|refine⟨oD,?_⟩|exact oD|fail
 obtain⟨n,hn⟩: ∃n,n=num e:=⟨_,rfl⟩;rw[←hn];have hbl:n/2^dh n=0:=by
  refine Nat.div_eq_of_lt ?_;unfold dh;split
  ·subst_vars;rename_i h;rw[h];decide
  ·rename_i h;exact Nat.lt_log2_self
 refine Nw (α:=Nat) (fun k=>⟨[(3, .p 1000 0 0),(5, .p 1001 0 0),(9, .p 1019 0 0)],[(1000,⟨0,[.v (N (a%m))],false,none⟩),(1001,⟨0,[.v (N m)],false,none⟩),(1019,⟨0,[.v (N (a^(n/2^k)%m))],false,some 22⟩)],_⟩) (fun ys k=>ys=yK n k) (dh n) (fun _=>Nat.le_refl _) rfl ?_ ?_ ?_
 ·(refine AS.Le.of (by first|decide|omega) ?_ ?_<;>simp[bL,bK,aD,ai,AV.bd,AV.bd.bdL,u8,af,ah,ak])
  rw[hbl,Nat.pow_zero]
 ·intro k hk
  cases k with
  |succ k=>cases hk
  |zero=>
   repeat' first|simp only[go_sem,seval]|refine sB ?_|(first|apply pX|apply bX)<;>intro hc|refine⟨oD,?_⟩|exact oD|fail
   rw[Nat.div_one]
 ·intro y ys k hk R hR
  cases k with
  |zero=>cases hk
  |succ k=>
   simp only[yK,List.cons.injEq]at hk;obtain⟨rfl,rfl⟩:=hk;obtain⟨x,hx⟩: ∃x,x=a^(n/2^(k+1))%m:=⟨_,rfl⟩;have hxm:x<m:=by rw[hx];exact Nat.mod_lt _ h0
   have t1:=zH (a:=x) (b:=x) (by omega) (by omega) hm h0
   have hxx:x*x%m<m:=Nat.mod_lt _ h0;have ham:a%m<m:=Nat.mod_lt _ h0;have t2:=zH (a:=x*x%m) (b:=a%m) (by omega) (by omega) hm h0
   have hbit:=Nat.testBit_eq_decide_div_mod_eq (x:=n) (i:=k);have hdd:n/2^(k+1)=n/2^k/2:=by rw[Nat.pow_succ,Nat.div_div_eq_div_mul]
   rw[←hx,hbit];repeat' first|simp only[go_sem,seval]|refine cP t1 ?_|refine cP t2 ?_|refine sB ?_|(first|apply pX|apply bX)<;>intro hc|refine⟨oD,?_⟩|exact oD|fail
   ·have hb2:n/2^k=2*(n/2^(k+1))+1:=by omega
    refine hR k rfl _ ?_;rw[hb2,hx,NB];exact lE
   ·have hb2:n/2^k=2*(n/2^(k+1)):=by omega
    refine hR k rfl _ ?_;rw[hb2,hx,KL];exact lE
theorem O3 (n:Nat):(aK n==([1]:Bytes))=decide (n=1):=Ae n 1
end Go.Proofs.YtmobkhegihemeaaGreatDoor
namespace Go.Proofs.YtmobkhegihemeaaGreatDoor
open Go Go.Dom Go.Num
set_option maxRecDepth 100000
set_option maxHeartbeats 4000000

abbrev G (m o:Bytes):PV:= .agg [.s m, .s o]
theorem dy {a:Bytes} (h:aa a=true):N (num a)= .s a:=congrArg PV.s (dZ h)
def gi (m o:Bytes):Bool:=aa m&&o==[]&&(num m).testBit 0&&decide (8<num m)
theorem Rv:aB Tryz.prog 31 [.i .u64 8] (.s [8]):=fI 8 (by decide)
theorem lH:aB Tryz.prog 31 [.i .u64 1] (.s [1]):=fI 1 (by decide)
theorem Oc:aB Tryz.prog 31 [.i .u64 2] (.s [2]):=fI 2 (by decide)
theorem ID (m o:Bytes):aB Tryz.prog 214 [G m o] (.b (gi m o)):=by
 have hv:=aF m
 by_cases h:aa m=true
 ·have hb:=pj h 0 (by decide)
  have hcm:=gO m [8];rw[h]at hv;rw[h,show aa [8]=true from rfl,show num [8]=8 from rfl]at hcm
  have he:aT (num m) 8>0↔8<num m:=by unfold aT;split<;>(try split)<;>omega
  refine eW Tryz.call214 Tryz.func214 ?_;repeat' first|simp only[go_sem,seval]|refine cP hv ?_|refine cP hb ?_|refine cP Rv ?_|refine cP hcm ?_|refine sB ?_|(first|apply pX|apply bX)<;>intro hc|refine⟨oD,?_⟩|exact oD|fail
  all_goals simp_all[gi]
 ·have h:aa m=false:=by simpa using h
  rw[h]at hv;have e:gi m o=false:=by simp[gi,h]
  rw[e];refine eW Tryz.call214 Tryz.func214 ?_;repeat' first|simp only[go_sem,seval]|refine cP hv ?_|refine sB ?_|(first|apply pX|apply bX)<;>intro hc|refine⟨oD,?_⟩|exact oD|fail
theorem JE:aB Tryz.prog 216 [] (N 1):=by
 refine eW Tryz.call216 Tryz.func216 ?_;repeat' first|simp only[go_sem,seval]|refine cP lH ?_|refine sB ?_|(first|apply pX|apply bX)<;>intro hc|refine⟨oD,?_⟩|exact oD|fail
 all_goals rfl
def rT (m o x:Bytes):Bool:=gi m o&&aa x&& !(x==[])&&decide (num x<num m)&&decide (Nat.gcd (num x) (num m)=1)
theorem pI (a b:Nat):(aT a b≥0)=(b≤a):=by
 unfold aT;rw[eq_iff_iff];split<;>(try split)<;>omega
theorem JA {m:Bytes} (lm:m.length≤8) (o x:Bytes):aB Tryz.prog 137 [G m o, .s x] (.b (rT m o x)):=by
 have hg:=ID m o;have hv:=aF x
 by_cases h:gi m o=true∧aa x=true∧x≠[]∧num x<num m
 ·obtain⟨h1,h2,h3,h4⟩:=h;have hm:aa m=true:=by simp[gi]at h1;exact h1.1.1.1
  have hcm:=gO x m;rw[h2,hm]at hcm;have hnm:=cE lm;have hgc:=Qi (a:=num x) (b:=num m) (by omega) hnm
  rw[dy h2,dy hm]at hgc;rw[h1]at hg;rw[h2]at hv;have hx:(x==([]:Bytes))=false:=by simpa using h3
  have hlt: ¬aT (num x) (num m)≥0:=by rw[pI];omega
  have e:rT m o x=decide (Nat.gcd (num x) (num m)=1):=by simp[rT,h1,h2,h4];intro;exact h3
  rw[e];refine eW Tryz.call137 Tryz.func137 ?_;repeat' first|simp only[go_sem,seval,hx,Ae]|refine cP hg ?_|refine cP hv ?_|refine cP hcm ?_|refine cP hgc ?_|refine cP JE ?_|refine sB ?_|(first|apply pX|apply bX)<;>intro hc|refine⟨oD,?_⟩|exact oD|fail
  all_goals skip
 ·have e:rT m o x=false:=by
   rw[Bool.eq_false_iff];intro g;simp[rT]at g;exact h ⟨g.1.1.1.1,g.1.1.1.2,g.1.1.2,g.1.2⟩
  have hcm:=gO x m;rw[e]
  by_cases h1:gi m o=true
  ·have hm:aa m=true:=by simp[gi]at h1;exact h1.1.1.1
   rw[h1]at hg
   by_cases h2:aa x=true
   ·rw[h2]at hv;rw[h2,hm]at hcm
    by_cases h3:x=[]
    ·subst h3;refine eW Tryz.call137 Tryz.func137 ?_;repeat' first|simp only[go_sem,seval,nn]|refine cP hg ?_|refine cP hv ?_|refine sB ?_|(first|apply pX|apply bX)<;>intro hc|refine⟨oD,?_⟩|exact oD|fail
    ·have hx:(x==([]:Bytes))=false:=by simpa using h3
     have hge:aT (num x) (num m)≥0:=by rw[pI];exact Nat.le_of_not_lt fun g=>h ⟨h1,h2,h3,g⟩
     refine eW Tryz.call137 Tryz.func137 ?_;repeat' first|simp only[go_sem,seval,hx]|refine cP hg ?_|refine cP hv ?_|refine cP hcm ?_|refine sB ?_|(first|apply pX|apply bX)<;>intro hc|refine⟨oD,?_⟩|exact oD|fail
     all_goals skip
   ·have h2:aa x=false:=by simpa using h2
    rw[h2]at hv;refine eW Tryz.call137 Tryz.func137 ?_;repeat' first|simp only[go_sem,seval]|refine cP hg ?_|refine cP hv ?_|refine sB ?_|(first|apply pX|apply bX)<;>intro hc|refine⟨oD,?_⟩|exact oD|fail
  ·have h1:gi m o=false:=by simpa using h1
   rw[h1]at hg;refine eW Tryz.call137 Tryz.func137 ?_;repeat' first|simp only[go_sem,seval]|refine cP hg ?_|refine sB ?_|(first|apply pX|apply bX)<;>intro hc|refine⟨oD,?_⟩|exact oD|fail
structure R7 (m o p q:Bytes):Prop where
 vm:aa m=true
 vp:aa p=true
 vq:aa q=true
 lp:p.length≤8
 lq:q.length≤8
 o:o=[]
 mul:num m=num p*num q
 odd:num m%2=1
 sp:E8 (num p)=true
 sq:E8 (num q)=true
 ne:num p≠num q
theorem oX (n:Bool) (a:Bytes):aB Tryz.prog 99 [.b n, .s a] (.agg [.b (n&& !(a==[])), .s a]):=by
 refine eW Tryz.call99 Tryz.func99 ?_;repeat' first|simp only[go_sem,seval]|refine sB ?_|(first|apply pX|apply bX)<;>intro hc|refine⟨oD,?_⟩|exact oD|fail
 all_goals simp_all
theorem dJ (n:Bool) (a:Bytes):aB Tryz.prog 171 [.agg [.b n, .s a]] (.b (aa a&& !(n&&a==[]))):=by
 have hv:=aF a;refine eW Tryz.call171 Tryz.func171 ?_;repeat' first|simp only[go_sem,seval]|refine cP hv ?_|refine sB ?_|(first|apply pX|apply bX)<;>intro hc|refine⟨oD,?_⟩|exact oD|fail
 all_goals simp_all
theorem j8 {a:Bytes} (h:aa a=true):aB Tryz.prog 47 [.s a] (.agg [.b false, .s a]):=by
 have hv:=aF a;rw[h]at hv;refine eW Tryz.call47 Tryz.func47 ?_;repeat' first|simp only[go_sem,seval]|refine cP hv ?_|refine cP (oX _ _) ?_|refine sB ?_|(first|apply pX|apply bX)<;>intro hc|refine⟨oD,?_⟩|exact oD|fail
 all_goals simp_all
theorem Cj (m o:Bytes):aB Tryz.prog 54 [G m o] (.b (aa m&&aa o)):=by
 have v1:=aF m;have v2:=aF o;refine eW Tryz.call54 Tryz.func54 ?_;repeat' first|simp only[go_sem,seval]|refine cP v1 ?_|refine cP v2 ?_|refine sB ?_|(first|apply pX|apply bX)<;>intro hc|refine⟨oD,?_⟩|exact oD|fail
 all_goals simp_all
theorem Qq {a b:Nat} (ha:a<18446744073709551616) (hb:b<18446744073709551616):aB Tryz.prog 94 [N a,N b] (.tup [if b≤a then N (a-b)else .s [],E (if b≤a then 0 else 2)]):=by
 have:=Dz (aK a) (aK b);simp only[zF,vN ha,vN hb,Bool.and_self,if_true,aG]at this
 by_cases h:b≤a
 ·simp only[h,if_true]at this⊢;exact this
 ·simp only[h,if_false]at this⊢;exact this
def RJ (m o:Bytes):Int:=if !(aa m&&aa o)then 3 else if 8<m.length then 5 else if !cT (num m)then 12 else if 8<o.length then 13 else if !cT (num o)then 12 else if(num m-1)%num o=0 then 0 else 13
def oo (m o x:Bytes):Bool:=aa m&&aa o&&aa x&& !(o==[])&& !(x==[])&&decide (num x<num m)&&decide (num x^num o%num m=1%num m)
theorem F2 {m:Bytes} (lm:m.length≤8) (o x:Bytes):aB Tryz.prog 56 [G m o, .s x] (.b (oo m o x)):=by
 have hf:=Cj m o;have vx:=aF x;have hcm:=gO x m
 by_cases h:aa m=true∧aa o=true∧aa x=true∧o≠[]∧x≠[]∧num x<num m
 ·obtain⟨v1,v2,v3,h4,h5,h6⟩:=h;have e4:(o==([]:Bytes))=false:=by simpa using h4
  have e5:(x==([]:Bytes))=false:=by simpa using h5
  have hn:=cE lm;have hE:=N9 (a:=num x) (m:=num m) (e:=o) (by omega) v2 hn (by omega)
  have hE0:=N9 (a:=num x) (m:=num m) (e:=[]) (by omega) rfl hn (by omega)
  rw[dy v3,dy v1]at hE hE0;rw[show num ([]:Bytes)=0 from rfl,Nat.pow_zero]at hE0
  rw[v1,v2]at hf;rw[v3]at vx;rw[v3,v1]at hcm;have hlt: ¬aT (num x) (num m)≥0:=by rw[pI];omega
  have e:oo m o x=decide (num x^num o%num m=1%num m):=by simp[oo,v1,v2,v3,e4,e5,h6]
  rw[e];generalize num x^num o%num m=z1 at*;generalize 1%num m=z2 at*;refine eW Tryz.call56 Tryz.func56 ?_;repeat' first|simp only[go_sem,seval,e4,e5,Ae]|refine cP hf ?_|refine cP vx ?_|refine cP hcm ?_|refine cP hE ?_|refine cP hE0 ?_|refine sB ?_|(first|apply pX|apply bX)<;>intro hc|refine⟨oD,?_⟩|exact oD|fail
  all_goals simp_all
 ·have e:oo m o x=false:=by
   rw[Bool.eq_false_iff];intro g;simp[oo]at g;exact h ⟨g.1.1.1.1.1.1,g.1.1.1.1.1.2,g.1.1.1.1.2,g.1.1.1.2,g.1.1.2,g.1.2⟩
  rw[e]
  by_cases v1:aa m=true<;>by_cases v2:aa o=true<;>by_cases v3:aa x=true
  ·rw[v1,v2]at hf;rw[v3]at vx;rw[v3,v1]at hcm
   by_cases h4:o=[]
   ·subst h4;refine eW Tryz.call56 Tryz.func56 ?_;repeat' first|simp only[go_sem,seval,nn]|refine cP hf ?_|refine cP vx ?_|refine sB ?_|(first|apply pX|apply bX)<;>intro hc|refine⟨oD,?_⟩|exact oD|fail
   ·have e4:(o==([]:Bytes))=false:=by simpa using h4
    by_cases h5:x=[]
    ·subst h5;refine eW Tryz.call56 Tryz.func56 ?_;repeat' first|simp only[go_sem,seval,nn,e4]|refine cP hf ?_|refine cP vx ?_|refine sB ?_|(first|apply pX|apply bX)<;>intro hc|refine⟨oD,?_⟩|exact oD|fail
    ·have e5:(x==([]:Bytes))=false:=by simpa using h5
     have hge:aT (num x) (num m)≥0:=by rw[pI];exact Nat.le_of_not_lt fun g=>h ⟨v1,v2,v3,h4,h5,g⟩
     refine eW Tryz.call56 Tryz.func56 ?_;repeat' first|simp only[go_sem,seval,e4,e5]|refine cP hf ?_|refine cP vx ?_|refine cP hcm ?_|refine sB ?_|(first|apply pX|apply bX)<;>intro hc|refine⟨oD,?_⟩|exact oD|fail
  all_goals simp only[Bool.not_eq_true]at v1 v2 v3
  all_goals simp only[v1,v2,Bool.and_true,Bool.and_false,Bool.and_self,Bool.true_and,Bool.false_and]at hf
  all_goals simp only[v3]at vx
  ·refine eW Tryz.call56 Tryz.func56 ?_;repeat' first|simp only[go_sem,seval]|refine cP hf ?_|refine cP vx ?_|refine sB ?_|(first|apply pX|apply bX)<;>intro hc|refine⟨oD,?_⟩|exact oD|fail
  ·refine eW Tryz.call56 Tryz.func56 ?_;repeat' first|simp only[go_sem,seval]|refine cP hf ?_|refine cP vx ?_|refine sB ?_|(first|apply pX|apply bX)<;>intro hc|refine⟨oD,?_⟩|exact oD|fail
  ·refine eW Tryz.call56 Tryz.func56 ?_;repeat' first|simp only[go_sem,seval]|refine cP hf ?_|refine cP vx ?_|refine sB ?_|(first|apply pX|apply bX)<;>intro hc|refine⟨oD,?_⟩|exact oD|fail
  ·refine eW Tryz.call56 Tryz.func56 ?_;repeat' first|simp only[go_sem,seval]|refine cP hf ?_|refine cP vx ?_|refine sB ?_|(first|apply pX|apply bX)<;>intro hc|refine⟨oD,?_⟩|exact oD|fail
  ·refine eW Tryz.call56 Tryz.func56 ?_;repeat' first|simp only[go_sem,seval]|refine cP hf ?_|refine cP vx ?_|refine sB ?_|(first|apply pX|apply bX)<;>intro hc|refine⟨oD,?_⟩|exact oD|fail
  ·refine eW Tryz.call56 Tryz.func56 ?_;repeat' first|simp only[go_sem,seval]|refine cP hf ?_|refine cP vx ?_|refine sB ?_|(first|apply pX|apply bX)<;>intro hc|refine⟨oD,?_⟩|exact oD|fail
  ·refine eW Tryz.call56 Tryz.func56 ?_;repeat' first|simp only[go_sem,seval]|refine cP hf ?_|refine cP vx ?_|refine sB ?_|(first|apply pX|apply bX)<;>intro hc|refine⟨oD,?_⟩|exact oD|fail
end Go.Proofs.YtmobkhegihemeaaGreatDoor
namespace Go.Dom
def NT (q:Int) (p:List Int):List Int:=p.map (·%q)
theorem Ft (q x:Int): ∀p:List Int,Cg q (dP (NT q p) x) (dP p x)
 |[]=>Cg.eD _
 |a::p=>by
  have:=Ft q x p;simp only[NT,List.map_cons,dP]at this⊢;exact(Cg.emod q a).add ((Cg.eD x).mul this)
theorem I3 (q:Int) (p:List Int):(NT q p).length=p.length:=List.length_map ..
def iR (q:Int) (p:List Int) (a:Int):List Int:=NT q (xg (0::p) (p.map (-a* ·)))
theorem Mu (q x a:Int) (p:List Int):Cg q (dP (iR q p a) x) ((x-a)*dP p x):=by
 refine(Ft _ _ _).trans (Cg.of_eq ?_);rw[nL,nH,dP];grind
theorem ku (q a:Int) (p:List Int):(iR q p a).length=p.length+1:=by
 rw[iR,I3,my,List.length_map,List.length_cons];omega
def sM (q:Int) (l:List Int):List Int:=l.foldl (iR q) [1]
theorem Fx (q x:Int): ∀(l:List Int) (p:List Int),Cg q (dP (l.foldl (iR q) p) x) (dP p x*uG l x)
 |[],p=>Cg.of_eq (by simp[uG])
 |a::l,p=>by
  rw[List.foldl_cons,jX];exact(Fx q x l _).trans (((Mu q x a p).mul (Cg.eD _)).trans (Cg.of_eq (by grind)))
theorem Mt (q x:Int) (l:List Int):Cg q (dP (sM q l) x) (uG l x):=(Fx q x l [1]).trans (Cg.of_eq (by simp[dP]))
theorem A7 (q:Int): ∀(l:List Int) (p:List Int),(l.foldl (iR q) p).length=p.length+l.length
 |[],p=>rfl
 |a::l,p=>by rw[List.foldl_cons,A7 q l,ku,List.length_cons];omega
theorem oZ (q:Int) (l:List Int):(sM q l).length=l.length+1:=by rw[sM,A7];simp;omega
def qR (q x:Int) (l:List Int):Int:=l.foldl (fun s a=>s*((x-a)%q)%q) 1
theorem Gq (q x:Int): ∀(l:List Int) (s:Int),Cg q (l.foldl (fun s a=>s*((x-a)%q)%q) s) (s*uG l x)
 |[],s=>Cg.of_eq (by simp[uG])
 |a::l,s=>by
  rw[List.foldl_cons,jX];exact(Gq q x l _).trans ((((Cg.emod q _).trans ((Cg.eD s).mul (Cg.emod q _))).mul (Cg.eD _)).trans (Cg.of_eq (by grind)))
theorem Gr (q x:Int) (l:List Int):Cg q (qR q x l) (uG l x):=(Gq q x l 1).trans (Cg.of_eq (by grind))
theorem mw: ∀(p r:List Int) (j:Nat),(xg p r).getD j 0=p.getD j 0+r.getD j 0
 |[],r,j=>by simp[xg]
 |a::p,[],j=>by simp[xg]
 |a::p,b::r,0=>rfl
 |a::p,b::r,j+1=>by
  simp only[xg,List.getD_cons_succ];exact mw p r j
theorem je (f:Int→Int) (h:f 0=0): ∀(p:List Int) (j:Nat),(p.map f).getD j 0=f (p.getD j 0)
 |[],j=>by simp[h]
 |a::p,0=>rfl
 |a::p,j+1=>by simp only[List.map_cons,List.getD_cons_succ];exact je f h p j
theorem qt (q:Int) (p:List Int) (j:Nat):(NT q p).getD j 0=p.getD j 0%q:=je _ (Int.zero_emod q) p j
theorem FB (q a:Int) (p:List Int):(iR q p a).getD 0 0=(-a*p.getD 0 0)%q:=by
 rw[iR,qt,mw,je (-a* ·) (by grind),List.getD_cons_zero,Int.zero_add]
theorem wV (q a:Int) (p:List Int) (j:Nat):(iR q p a).getD (j+1) 0=(p.getD j 0+ -a*p.getD (j+1) 0)%q:=by
 rw[iR,qt,mw,je (-a* ·) (by grind),List.getD_cons_succ]
theorem mc {α:Type} (d:α): ∀(l:List α) (j:Nat),l.length≤j→l.getD j d=d
 |[],j,_=>rfl
 |a::l,0,h=>by simp at h
 |a::l,j+1,h=>by rw[List.getD_cons_succ];exact mc d l j (by simpa using h)
def rH (q:Int) (P:Nat→List Int) (f:Nat→Int) (j:Nat):Nat→Int
 |0=>0
 |i+1=>(rH q P f j i+(P i).getD j 0*f i%q)%q
theorem DE (q:Int) (P:Nat→List Int) (f:Nat→Int) (j:Nat): ∀n,Cg q (rH q P f j n) ((Fm P f n).getD j 0)
 |0=>Cg.of_eq (by simp[rH,Fm])
 |n+1=>by
  rw[rH,Fm,mw,je (f n* ·) (by grind)]
  exact(Cg.emod q _).trans ((DE q P f j n).add ((Cg.emod q _).trans (Cg.of_eq (by grind))))
def oE (q:Int) (p:List Int) (x:Int):Int:=p.foldr (fun a y=>(y*x%q+a)%q) 0
theorem yT (q x:Int): ∀p:List Int,Cg q (oE q p x) (dP p x)
 |[]=>Cg.eD _
 |a::p=>by
  have:=yT q x p;simp only[oE,List.foldr_cons,dP]at this⊢;exact(Cg.emod q _).trans ((((Cg.emod q _).trans (this.mul (Cg.eD x))).add (Cg.eD a)).trans (Cg.of_eq (by grind)))
theorem Cg.dvd {q a b:Int} (h:Cg q a b):q∣a-b:=h
variable {m:Nat}
theorem o7 (hm:0<m): ∀(l r:List (Nat×Int)),rq m (l++r)=rq m l*rq m r%m
 |[],r=>by rw[List.nil_append,rq,Nat.mod_mul_mod,Nat.one_mul,Jk]
 |p::l,r=>by
  rw[List.cons_append,rq,rq,o7 hm l r,Nat.mul_mod_mod,Nat.mod_mul_mod,Nat.mul_assoc]
theorem kZ (hm:0<m) (x:Nat) (z:Int):rq m [(x,z)]=bT m x z:=by
 rw[rq,rq,Nat.mul_mod_mod,Nat.mul_one,jW]
theorem xj {g:Nat} (hg:bE m g) (hm:0<m) (e w:Nat→Int): ∀n,rq m ((List.range n).map fun k=>(bT m g (e k),w k))=bT m g (JT (fun k=>e k*w k) n)
 |0=>(nM m g).symm
 |n+1=>by
  rw[List.range_succ,List.map_append,o7 hm,xj hg hm e w n,List.map_cons,List.map_nil,kZ hm,fx hg hm,qI hg hm];rfl
variable {q:Nat} {l:List Int} {w:Nat→Int}
theorem Ek {g:Nat} (hg:bE m g) (hm:0<m) (ho:g^q%m=1%m) (hp:G4 q l) (hw: ∀i,i<l.length→Cg q (w i*uG (l.eraseIdx i) (l.getD i 0)) 1) {c:List Int} (hc:c.length≤l.length) {x:Int} {v:Nat→Int} (hv: ∀i,i<l.length→Cg q (v i) (NS l w i x)) {e:Nat→Int} (he: ∀i,i<l.length→Cg q (e i) (dP c (l.getD i 0))):
  rq m ((List.range l.length).map fun k=>(bT m g (e k),v k))=bT m g (dP c x):=by
 rw[xj hg hm];exact mz hg hm ho (((zC fun i hi=>(he i hi).mul (hv i hi)).trans (Q3 hp hw hc x)).dvd)
theorem Nb {g:Nat} (hg:bE m g) (hm:0<m) (ho:g^q%m=1%m) {z:Int} (hz:Iv q z) (h:bT m g z=1%m):bT m g 1=1%m:=by
 obtain⟨y,hy⟩:=hz;rw[←mz hg hm ho hy.dvd,←fx hg hm,h];have:=fx (x5 hm) hm 0 y
 rwa[Int.zero_mul,nM]at this
theorem qJ {u:Nat} (hm:0<m) {b:Nat→Nat} (hb: ∀k,bE m (b k)) (hu:bE m u) (hq:u^q%m=1%m) (hu1:bT m u 1≠1%m) {v:Nat→Int} {i:Nat} (hi:Iv q (v i)): ∀n,rq m ((List.range n).map fun k=>(if k=i then b k*u%m else b k,v k))=rq m ((List.range n).map fun k=>(b k,v k))*(if i<n then bT m u (v i)else 1%m)%m
 |0=>by simp only[List.range_zero,List.map_nil,rq,Nat.not_lt_zero,if_false];rw[←Nat.mul_mod,Nat.one_mul]
 |n+1=>by
  rw[List.range_succ,List.map_append,List.map_append,o7 hm,o7 hm,qJ hm hb hu hq hu1 hi n,List.map_cons,List.map_nil,List.map_cons,List.map_nil,kZ hm,kZ hm]
  by_cases h1:n=i
  ·subst h1;rw[if_pos rfl,if_neg (Nat.lt_irrefl _),if_pos (Nat.lt_succ_self _),F3 (hb _) hu hm];simp only[Nat.mul_mod_mod,Nat.mod_mul_mod,Nat.mul_one,Nat.mul_assoc]
  ·rw[if_neg h1]
   by_cases h2:i<n
   ·rw[if_pos h2,if_pos (by omega)]
    simp only[Nat.mul_mod_mod,Nat.mod_mul_mod];rw[Nat.mul_right_comm]
   ·rw[if_neg h2,if_neg (by omega)]
    simp only[Nat.mul_mod_mod,Nat.mod_mul_mod,Nat.mul_one,Nat.mod_mod]
theorem Ms {a u:Nat} (hm:0<m) (ha:bE m a) (ham:a%m=a) (h:a*u%m=a):u%m=1%m:=by
 have hi:=ha.inv.2;have h1:cL a m*(a*u%m)%m=cL a m*a%m:=by rw[h]
 rw[Nat.mul_mod_mod,←Nat.mul_assoc,Nat.mul_comm (cL a m) a,hi,Nat.mul_mod,hi,←Nat.mul_mod,Nat.one_mul]at h1;exact h1
end Go.Dom
namespace Go.Dom
theorem oS {q:Int} (x:Int): ∀(p r:List Int),(∀j,Cg q (p.getD j 0) (r.getD j 0))→Cg q (dP p x) (dP r x)
 |[],[],_=>Cg.eD _
 |a::p,[],g=>by
  have h0:=g 0;have:=oS (q:=q) x p [] (fun j=>by have:=g (j+1);simpa using this)
  simp only[dP]at this⊢;exact(h0.add ((Cg.eD x).mul this)).trans (Cg.of_eq (by simp))
 |[],b::r,g=>by
  have h0:=g 0;have:=oS (q:=q) x [] r (fun j=>by have:=g (j+1);simpa using this)
  simp only[dP]at this⊢;exact Cg.trans (Cg.of_eq (by simp)) (h0.add ((Cg.eD x).mul this))
 |a::p,b::r,g=>by
  have h0:=g 0;have:=oS (q:=q) x p r (fun j=>by have:=g (j+1);simpa using this)
  simp only[dP];exact h0.add ((Cg.eD x).mul this)
def lk (q:Int) (l:List Int) (f:Nat→Int):List Int:=(List.range l.length).map fun j=>rH q (fun k=>sM q (l.eraseIdx k)) f j l.length
theorem Da (q:Int) (l:List Int) (f:Nat→Int) {j:Nat} (h:j<l.length):(lk q l f).getD j 0=rH q (fun k=>sM q (l.eraseIdx k)) f j l.length:=by
 rw[lk,List.getD_eq_getElem?_getD,List.getElem?_map,List.getElem?_range h];rfl
theorem GK (q:Int) (l:List Int) (f:Nat→Int) (x:Int):Cg q (oE q (lk q l f) x) (JT (fun k=>f k*uG (l.eraseIdx k) x) l.length):=by
 have hlen:(Fm (fun k=>sM q (l.eraseIdx k)) f l.length).length≤l.length:=uq fun k hk=>by
  rw[oZ,List.length_eraseIdx,if_pos hk];omega
 refine(yT q x _).trans ((oS x _ (Fm (fun k=>sM q (l.eraseIdx k)) f l.length) fun j=> ?_).trans ?_)
 ·by_cases hj:j<l.length
  ·rw[Da q l f hj];exact DE _ _ _ _ _
  ·rw[mc 0 (lk q l f) j (by rw[lk,List.length_map,List.length_range];omega),mc 0 _ j (by omega)]
   exact Cg.eD _
 ·rw[uo];exact zC fun i _=>(Cg.eD _).mul (Mt q x _)
theorem Db {q:Int} {l:List Int} {w f:Nat→Int} {i:Nat} (hi:i<l.length) (h1:Cg q (f i) (w i)) (h0: ∀k,k<l.length→k≠i→Cg q (f k) 0) (x:Int):Cg q (oE q (lk q l f) x) (NS l w i x):=by
 refine(GK q l f x).trans ((uV hi fun k hk hn=> ?_).trans (h1.mul (Cg.eD _)))
 exact((h0 k hk hn).mul (Cg.eD _)).trans (Cg.of_eq (by grind))
theorem nA {q:Int} (hq:0<q) (x:Int): ∀p:List Int,0≤oE q p x∧oE q p x<q
 |[]=>⟨Int.le_refl _,hq⟩
 |a::p=>⟨Int.emod_nonneg _ (by omega),Int.emod_lt_of_pos _ hq⟩
theorem mY {q:Int} (hq:0<q) (P:Nat→List Int) (f:Nat→Int) (j:Nat): ∀n,0≤rH q P f j n∧rH q P f j n<q
 |0=>⟨Int.le_refl _,hq⟩
 |n+1=>⟨Int.emod_nonneg _ (by omega),Int.emod_lt_of_pos _ hq⟩
theorem Iv.Mz {q a b:Nat} (h:a*b%q=1%q):Iv q a:=by
 refine⟨b,?_⟩;have h1:Cg q (((a*b%q:Nat):Int)) ((a*b:Nat):Int):=by rw[Int.natCast_emod];exact Cg.emod _ _
 have h2:Cg q (((1%q:Nat):Int)) ((1:Nat):Int):=by rw[Int.natCast_emod];exact Cg.emod _ _
 rw[←Int.natCast_mul];exact h1.symm.trans ((Cg.of_eq (by rw[h])).trans h2)
end Go.Dom
namespace Go.Dom
open Go.Num
theorem jt {q:Nat} (h:cT q=true):2≤q∧(q∈bC∨ ∀p∈bC,¬q%p=0):=by
 unfold cT at h
 split at h
 ·exact absurd h (by decide)
 ·rename_i h2;refine⟨by omega,?_⟩
  split at h
  ·rename_i p hf;have:=List.mem_of_find?_eq_some hf;exact .inl (by rw[show q=p by simpa using h];exact this)
  ·rename_i hf;exact .inr fun p hp hz=>by
    have:=List.find?_eq_none.1 hf p hp;simp[hz]at this
theorem Is {q a:Nat} (h:cT q=true) (a0:0<a) (a8:a≤8) (hq:a<q):Nat.gcd a q=1:=by
 obtain⟨h2,h|h⟩:=jt h
 ·have hd: ∀q∈bC,∀a,a≤8→0<a→a<q→Nat.gcd a q=1:=by decide
  exact hd q h a a8 a0 hq
 ·have e2:=h 2 (by decide)
  have e3:=h 3 (by decide)
  have e5:=h 5 (by decide)
  have e7:=h 7 (by decide)
  rw[Nat.gcd_rec];obtain⟨r,hr⟩: ∃r,r=q%a:=⟨_,rfl⟩;rw[←hr];have hd: ∀a:Fin 9,∀r:Fin 9,r.1<a.1→(a.1%2=0∧r.1%2=0)∨(a.1%3=0∧r.1%3=0)∨(a.1%5=0∧r.1%5=0)∨(a.1%7=0∧r.1%7=0)∨Nat.gcd r.1 a.1=1:=by decide
  have hra:r<a:=hr▸Nat.mod_lt _ a0;have hm: ∀p,a%p=0→q%p≠0→r%p≠0:=fun p hp hq hz=>by
   rw[hr,Nat.mod_mod_of_dvd _ (Nat.dvd_of_mod_eq_zero hp)]at hz;exact hq hz
  rcases hd ⟨a,by omega⟩ ⟨r,by omega⟩ hra with⟨e,f⟩|⟨e,f⟩|⟨e,f⟩|⟨e,f⟩|e
  ·exact absurd f (hm 2 e e2)
  ·exact absurd f (hm 3 e e3)
  ·exact absurd f (hm 5 e e5)
  ·exact absurd f (hm 7 e e7)
  ·exact e
theorem EF {q a:Nat} (h:cT q=true) (a0:0<a) (a8:a≤8) (hq:a<q):bE q a:=fU (by omega) (Is h a0 a8 hq)
theorem EE {q a:Nat} (h:cT q=true) (a0:0<a) (a8:a≤8) (hq:a<q):Iv q a:=by
 obtain⟨b,-,hb⟩:=EF h a0 a8 hq;exact Iv.Mz hb
theorem AD {q a b:Nat} (h:cT q=true) (hn:a≠b) (ha:a≤8) (hb:b≤8) (qa:a<q) (qb:b<q):Iv q ((a:Int)-b):=by
 rcases Nat.lt_or_gt_of_ne hn with g|g
 ·have:=(EE h (a:=b-a) (by omega) (by omega) (by omega)).neg
  exact this.cg (Cg.of_eq (by omega))
 ·have:=EE h (a:=a-b) (by omega) (by omega) (by omega)
  exact this.cg (Cg.of_eq (by omega))
theorem tZ {q:Nat} (h:cT q=true): ∀{l:List Nat},l.Nodup→(∀a∈l,a≤8∧a<q)→G4 q (l.map fun a:Nat=>(a:Int))
 |[],_,_=>trivial
 |a::l,hd,hb=>by
  have hd:=List.nodup_cons.1 hd;refine⟨fun x hx=> ?_,tZ h hd.2 fun b hb'=>hb b (.tail _ hb')⟩
  obtain⟨b,hb',rfl⟩:=List.mem_map.1 hx;have ha:=hb a (.head _);have hbb:=hb b (.tail _ hb');exact AD h (fun e=>hd.1 (e▸hb')) hbb.1 ha.1 hbb.2 ha.2
end Go.Dom
