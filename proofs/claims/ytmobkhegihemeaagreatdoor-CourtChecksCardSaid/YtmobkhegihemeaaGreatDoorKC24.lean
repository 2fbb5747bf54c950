/-
  Part of the proof, part KC24. Own work.
-/
import Derived.Test.YtmobkhegihemeaaGreatDoorKC23
set_option linter.all false
namespace Go.Num
def Pr (n:Nat):Prop:=2≤n∧ ∀d,d∣n→d=1∨d=n
theorem Pr.O9 {p a:Nat} (h:Pr p) (ha: ¬p∣a):Nat.Coprime a p:=by
 rcases h.2 _ (AG a p)with e|e
 ·exact e
 ·exact absurd (e▸AL a p) ha
def bz:List Nat:=[2,3,5,7,11,13,17,19,23,29,31,37]
def CX:Nat→Nat→Nat
 |0,_=>0
 |f+1,n=>if n%2=1 then 0 else CX f (n/2)+1
def PF:Nat→Nat→Nat→Bool
 |0,_,_=>false
 |k+1,x,n=>x*x%n==n-1||PF k (x*x%n) n
def mA (n s d a:Nat):Bool:=(a%n)^d%n==1||(a%n)^d%n==n-1||PF (s-1) ((a%n)^d%n) n
def dS (n:Nat):Bool:=
 if n<2 then false else
 match bz.find? fun p=>n%p==0 with
 |some p=>n==p
 |none=>bz.all fun a=>mA n (CX 64 (n-1)) ((n-1)/2^CX 64 (n-1)) a
def JS (n:Nat):Bool:=dS n&&dS ((n-1)/2)
end Go.Num
namespace Go.Proofs.YtmobkhegihemeaaGreatDoor
open Go Go.Dom Go.Num
set_option maxRecDepth 100000
set_option maxHeartbeats 4000000
def O3:List PV:=bz.map fun p:Nat=> .i .u64 (p:Int)
theorem DV:aD Tryz.prog 131 [] (.agg O3):=by
 refine eW Tryz.call131 Tryz.func131 ?_;repeat' first|simp only[go_sem,seval]|refine sB ?_|(first|apply pX|apply bX)<;>intro hc|refine⟨oD,?_⟩|exact oD|fail
 rfl
theorem wQ {a b m:Nat} (ha:a<m) (hb:b<m) (hm:m<18446744073709551616):aD Tryz.prog 134 [.i .u64 a, .i .u64 b, .i .u64 m] (.i .u64 (a*b%m:Nat)):=by
 have h1:=pU a b (by omega) (by omega)
 have hp:a*b<m*18446744073709551616:=a9 (Nat.mul_lt_mul_of_lt_of_le ha (jy hb) (by omega)) (ic m (by omega))
 have h2:a*b/18446744073709551616<m:=(gv (by decide)).2 hp
 have h3:=A9 (a*b/18446744073709551616) (a*b%18446744073709551616) m h2 (aG _ (by decide)) hm
 have e:a*b/18446744073709551616*18446744073709551616+a*b%18446744073709551616=a*b:=by omega
 rw[e]at h3;refine eW Tryz.call134 Tryz.func134 ?_;repeat' first|simp only[go_sem,seval]|refine cP h1 ?_|refine cP h3 ?_|refine sB ?_|(first|apply pX|apply bX)<;>intro hc|refine⟨oD,?_⟩|exact oD|fail
theorem FK (b k m:Nat):(b*b%m)^(k/2)%m=b^(2*(k/2))%m:=by rw[←jD,←Nat.pow_two,←jb]
theorem KA {x b k m:Nat} (h:k%2=1):x*b%m*(b*b%m)^(k/2)%m=x*b^k%m:=by
 rw[cz,FK,dt,←cz,bY,←tY];congr 3;omega
theorem FJ {x b k m:Nat} (h:k%2=0):x*(b*b%m)^(k/2)%m=x*b^k%m:=by
 rw[cz,FK,←cz];congr 3;omega
theorem KE {a e m:Nat} (ha:a<m) (he:e<18446744073709551616) (hm:m<18446744073709551616):aD Tryz.prog 133 [.i .u64 a, .i .u64 e, .i .u64 m] (.i .u64 (a^e%m:Nat)):=by
 refine eW Tryz.call133 Tryz.func133 ?_;repeat' first|simp only[go_sem,seval]|refine sB ?_|(first|apply pX|apply bX)<;>intro hc|refine⟨oD,?_⟩|exact oD|fail
 refine aj (α:=Nat×Nat×Nat) (fun x=>x.2.1) (fun x=>⟨[(0,U x.1),(1,U x.2.1),(2,U m),(7,U x.2.2)],[],_⟩) (fun x=>x.1<m∧x.2.1<18446744073709551616∧x.2.2<m∧x.2.2*x.1^x.2.1%m=a^e%m) (a,e,1%m) (fun _=>au _) ⟨ha,he,aG _ (by omega),by show 1%m*a^e%m= _;rw[cz,dt,←cz,ko]⟩ ?_ ?_
 ·(refine AS.Le.of (by first|decide|omega) ?_ ?_<;>simp[cl,cj,aF,ar,AV.bd,AV.bd.bdL,u8,ah,ai,aq])
  rfl
 ·rintro⟨b,k,x⟩ ⟨h1,h2,h3,h4⟩ R hR;simp only at h1 h2 h3 h4;have hs:=wQ h1 h1 hm;have hx:=wQ h3 h1 hm;have hk:k/2<18446744073709551616:=by omega
  repeat' first|simp only[go_sem,seval,uw,bA hk]|refine cP hs ?_|refine cP hx ?_|refine sB ?_|(first|apply pX|apply bX)<;>intro hc|refine⟨oD,?_⟩|exact oD|fail
  ·refine hR (b*b%m,k/2,x*b%m) ⟨aG _ (by omega),hk,aG _ (by omega),?_⟩ (by show k/2<k;omega) _ ?_
   ·show x*b%m*(b*b%m)^(k/2)%m= _;rw[KA (by omega),h4]
   ·exact lE
  ·refine hR (b*b%m,k/2,x) ⟨aG _ (by omega),hk,h3,?_⟩ (by show k/2<k;omega) _ ?_
   ·show x*(b*b%m)^(k/2)%m= _;rw[FJ (by omega),h4]
   ·exact lE
  ·obtain rfl:k=0:=by omega
   rw[←h4,Nat.pow_zero,dP,bA h3]
theorem PI: ∀f x,Lib.ctzFrom f x=CX f x
 |0,x=>rfl
 |f+1,x=>by simp only[Lib.ctzFrom,CX,PI f (x/2)];split<;>omega
theorem Tp {i:Nat} (h:i<12):(List.map AV.v O3).getD i .u=U (bz.getD i 0):=by
 have: ∀i:Fin 12,(List.map AV.v O3).getD i.val .u=U (bz.getD i.val 0):=by
  intro i;rcases i with⟨i,hi⟩
  have h2:i<bz.length:=hi;simp[O3,aX,h2]
 exact this ⟨i,h⟩
theorem MC {i:Nat} (h:i<12):0<bz.getD i 0∧bz.getD i 0<38:=by
 have: ∀i:Fin 12,0<bz.getD i.val 0∧bz.getD i.val 0<38:=by decide
 exact this ⟨i,h⟩
theorem EN {i:Nat} (h:i<12):bz.drop i=bz.getD i 0::bz.drop (i+1):=by
 have h2:i<bz.length:=h;rw[ig h2,aX,aU h2];rfl
theorem NZ {n:Nat} (hn:n<18446744073709551616):aD Tryz.prog 76 [.i .u64 n] (.b (dS n)):=by
 by_cases h2:n<2
 ·have e:dS n=false:=by simp[dS,h2]
  rw[e];refine eW Tryz.call76 Tryz.func76 ?_;repeat' first|simp only[go_sem,seval]|refine sB ?_|(first|apply pX|apply bX)<;>intro hc|refine⟨oD,?_⟩|exact oD|fail
 have hb:=DV;have hL:(List.map AV.v O3).length=12:=rfl;refine eW Tryz.call76 Tryz.func76 ?_;repeat' first|simp only[go_sem,seval]|refine cP hb ?_|refine sB ?_|(first|apply pX|apply bX)<;>intro hc|refine⟨oD,?_⟩|exact oD|fail
 refine aj (α:=Nat) (fun i=>12-i) (fun i=>⟨[(0,U n),(13, .v (.agg O3)),(14,E' i)],[],_⟩) (fun i=>i≤12∧bz.find? (fun p=>n%p==0)=(bz.drop i).find? (fun p=>n%p==0)) 0 (fun _=>au _) ⟨by omega,rfl⟩ ?_ ?_
 ·exact lE
 ·rintro i ⟨hi,hf⟩ R hR
  by_cases hlt:i<12
  ·have g1:=Tp hlt;obtain⟨q0,q1⟩:=MC hlt;rw[EN hlt]at hf;generalize bz.getD i 0=q at*;repeat' first|simp only[go_sem,seval,g1,hL]|refine sB ?_|(first|apply pX|apply bX)<;>intro hc|refine⟨oD,?_⟩|exact oD|fail
   ·have hz:(n%q==0)=true:=by rw[beq_iff_eq];omega
    rw[List.find?_cons,hz]at hf;unfold dS;rw[if_neg h2,hf];congr 1;rw[dx];simp only[beq_iff_eq];omega
   ·have hz:(n%q==0)=false:=by rw[beq_eq_false_iff_ne];omega
    rw[List.find?_cons,hz]at hf;refine hR (i+1) ⟨by omega,hf⟩ (by omega) _ ?_
    exact lE
  ·obtain rfl:i=12:=by omega
   have hf:bz.find? (fun p=>n%p==0)=none:=hf
   obtain⟨s,hs⟩: ∃s,s=CX 64 (n-1):=⟨_,rfl⟩;obtain⟨d,hd⟩: ∃d,d=(n-1)/2^s:=⟨_,rfl⟩;have hz:=pd (n-1) (by omega) (by omega)
   have hs64:=(Lib.lowest_bit 64 (n-1) (by omega) (by show n-1<18446744073709551616;omega)).2
   have hzs:Lib.ctz 64 (n-1)=s:=by rw[Lib.ctz,if_neg (by omega),PI,hs]
   rw[hzs]at hz hs64;have hdl:d<18446744073709551616:=by rw[hd];exact dQ (dR _ _) (by omega)
   have e1: ∀ _:True,((n:Int)-1)=((n-1:Nat):Int):=fun _=>by omega
   have e2: ∀ _:True,(if s≤64 then s else 64)=s:=fun _=>by split<;>omega
   have e3: ∀ _:True,(n-1)/2^s=d:=fun _=>hd.symm
   have key:dS n=bz.all (mA n s d):=by
    unfold dS;rw[if_neg h2,hf,←hs,←hd]
   rw[key];clear key hf hzs hs hd;repeat' first|simp only[go_sem,seval,e1 trivial,e2 trivial,e3 trivial]|refine cP hz ?_|refine cP hb ?_|refine sB ?_|(first|apply pX|apply bX)<;>intro hc|refine⟨oD,?_⟩|exact oD|fail
   refine aj (α:=Nat) (fun i=>12-i) (fun i=>⟨[(0,U n),(5,E' s),(6,U d),(32, .v (.agg O3)),(33,E' i)],[],_⟩) (fun i=>i≤12∧bz.all (mA n s d)=(bz.drop i).all (mA n s d)) 0 (fun _=>au _) ⟨by omega,rfl⟩ ?_ ?_
   ·exact lE
   ·rintro i ⟨hi,hf⟩ R hR
    by_cases hlt:i<12
    ·have g1:=Tp hlt;obtain⟨q0,q1⟩:=MC hlt;rw[EN hlt,List.all_cons]at hf;have hR1:=hR (i+1);generalize bz.getD i 0=q at*;have hq:q%n<n:=aG _ (by omega)
     have hp:=KE hq hdl hn;obtain⟨x,hx⟩: ∃x,x=(q%n)^d%n:=⟨_,rfl⟩;have hxl:x<n:=by rw[hx];exact aG _ (by omega)
     have hst:mA n s d q=(x==1||x==n-1||PF (s-1) x n):=by rw[hx];rfl
     rw[←hx]at hp;clear hx;repeat' first|simp only[go_sem,seval,g1,hL,e1 trivial]|refine cP hp ?_|refine sB ?_|(first|apply pX|apply bX)<;>intro hc|refine⟨oD,?_⟩|exact oD|fail
     ·have hx1:x=1:=by omega
      refine hR1 ⟨by omega,by rw[hf,hst,hx1];simp⟩ (by omega) _ ?_
      exact lE
     ·have hx1:x=n-1:=by omega
      refine hR1 ⟨by omega,by rw[hf,hst,hx1];simp⟩ (by omega) _ ?_
      exact lE
     ·have hx1:(x==1)=false:=by rw[beq_eq_false_iff_ne];omega
      have hx2:(x==n-1)=false:=by rw[beq_eq_false_iff_ne];omega
      rw[hx1,hx2,mb,mb]at hst;refine aj (α:=Nat×Nat) (fun z=>s-z.1) (fun z=>⟨[(0,U n),(5,E' s),(6,U d),(32, .v (.agg O3)),(33,E' i),(9,U z.2),(10,E' z.1)],[],_⟩) (fun z=>1≤z.1∧z.2<n∧PF (s-z.1) z.2 n=PF (s-1) x n) (1,x) (fun _=>au _) ⟨au 1,hxl,rfl⟩ ?_ ?_
      ·exact lE
      ·rintro⟨j,y⟩ ⟨hj,hy,hz⟩ R' hR';simp only at hj hy hz;have hm:=wQ hy hy hn;obtain⟨w,hw⟩: ∃w,w=y*y%n:=⟨_,rfl⟩;have hwl:w<n:=by rw[hw];exact aG _ (by omega)
       have hz':j<s→(w==n-1||PF (s-(j+1)) w n)=PF (s-1) x n:=by
        intro g;rw[←hz,show s-j=s-(j+1)+1 by omega,hw];rfl
       rw[←hw]at hm;clear hw;repeat' first|simp only[go_sem,seval,e1 trivial]|refine cP hm ?_|refine sB ?_|(first|apply pX|apply bX)<;>intro hc|refine⟨oD,?_⟩|exact oD|fail
       ·have hw1:w=n-1:=by omega
        have:=hz' (by omega)
        rw[hw1,beq_self_eq_true,oM]at this;refine hR1 ⟨by omega,by rw[hf,hst,←this,bZ]⟩ (by omega) _ ?_
        exact lE
       ·have hw1:(w==n-1)=false:=by rw[beq_eq_false_iff_ne];omega
        have:=hz' (by omega)
        rw[hw1,mb]at this;refine hR' (j+1,w) ⟨by show 1≤j+1;omega,hwl,this⟩ (by show s-(j+1)<s-j;omega) _ ?_
        exact lE
       ·rw[hf,hst,←hz,show s-j=0 by omega];rfl
    ·obtain rfl:i=12:=by omega
     repeat' first|simp only[go_sem,seval]|refine sB ?_|(first|apply pX|apply bX)<;>intro hc|refine⟨oD,?_⟩|exact oD|fail
     rw[hf];rfl
theorem DW (a:Bytes):aD Tryz.prog 75 [.s a] (.tup [.i .u64 (if aa a&&decide (a.length≤8)then num a else 0),E (if aa a then(if a.length≤8 then 0 else 5)else 3)]):=by
 have hs:=mD a;have hv:=aM a;refine eW Tryz.call75 Tryz.func75 ?_;repeat' first|simp only[go_sem,seval]|refine cP hv ?_|refine cP hs ?_|refine sB ?_|(first|apply pX|apply bX)<;>intro hc|refine⟨oD,?_⟩|exact oD|fail
 all_goals (simp_all<;>omega)
def ir (a:Bytes):Int:=if aa a then(if a.length≤8 then 0 else 5)else 3
theorem yJ (a:Bytes):aD Tryz.prog 29 [.s a] (.tup [.b (aa a&&decide (a.length≤8)&&dS (num a)),E (ir a)]):=by
 have hs:=DW a
 by_cases h:aa a=true∧a.length≤8
 ·obtain⟨h1,h2⟩:=h;have e:ir a=0:=by simp[ir,h1,h2]
  rw[h1,decide_eq_true h2]at hs;have hi:=NZ (ep h2);rw[h1,decide_eq_true h2,e];refine eW Tryz.call29 Tryz.func29 ?_;repeat' first|simp only[go_sem,seval,if_true,if_pos h2]|refine cP hs ?_|refine cP hi ?_|refine sB ?_|(first|apply pX|apply bX)<;>intro hc|refine⟨oD,?_⟩|exact oD|fail
  all_goals skip
 ·have h0:(aa a&&decide (a.length≤8))=false:=by
   rw[fj];intro g;simp at g;exact h g
  have e:ir a≠0:=by
   unfold ir;split
   ·rename_i g;rw[if_neg (fun g2=>h ⟨g,g2⟩)];decide
   ·decide
  rw[h0]at hs⊢;have e2:(if aa a then(if a.length≤8 then(0:Int)else 5)else 3)=ir a:=rfl
  rw[e2]at hs;refine eW Tryz.call29 Tryz.func29 ?_;repeat' first|simp only[go_sem,seval]|refine cP hs ?_|refine sB ?_|(first|apply pX|apply bX)<;>intro hc|refine⟨oD,?_⟩|exact oD|fail
  all_goals skip
end Go.Proofs.YtmobkhegihemeaaGreatDoor
namespace Go.Proofs.YtmobkhegihemeaaGreatDoor
open Go Go.Dom
set_option maxRecDepth 100000
set_option maxHeartbeats 4000000
def qh (l:List Bytes) (m:Bytes):Int:=if l.all aa&&aa m then(if m=[]then 11 else 0)else 3
theorem QT (nm:Nat) (a m:Bytes):ik Tryz.prog 161 nm [] [.fs [.s a], .fs [.s m]] (.v (E (qh [a] m))) []:=by
 refine ik.w mixed Tryz.call161 Tryz.func161 rfl (iL.1 _ _ _ (by cbv)) (iL.2 _ _ (by cbv)) (obs:=[]) (args:=[.fs [.s a], .fs [.s m]]) (fs:=[]) (j:=none) (nw:=none) (v:= .v (E (qh [a] m))) (ns:=[]) (obsA:=[]) rfl ?_ (by simp) (by simp) rfl rfl (by simp[aQ,AV.aI]) (by simp[AV.aI]) (by simp[eH,outs])
 have va:=aM a;have vm:=aM m;simp only[go_sem,seval];repeat' first|simp only[go_sem,seval,true_or,or_true,false_or,or_false,af,fU,dH,fG,eY,eZ,dJ,mR,nM,ft,fK,cJ,aE,AV.aI,AV.aI.renL,aA,cb,bI]|refine cP va ?_|refine cP vm ?_|(refine ae ?_)|refine sB ?_|(first|apply pX|apply bX)<;>intro hc|refine⟨oD,?_⟩|exact oD|fail
 all_goals simp_all[qh]
theorem za (nm:Nat) (a b m:Bytes):ik Tryz.prog 161 nm [] [.fs [.s a, .s b], .fs [.s m]] (.v (E (qh [a,b] m))) []:=by
 refine ik.w mixed Tryz.call161 Tryz.func161 rfl (iL.1 _ _ _ (by cbv)) (iL.2 _ _ (by cbv)) (obs:=[]) (args:=[.fs [.s a, .s b], .fs [.s m]]) (fs:=[]) (j:=none) (nw:=none) (v:= .v (E (qh [a,b] m))) (ns:=[]) (obsA:=[]) rfl ?_ (by simp) (by simp) rfl rfl (by simp[aQ,AV.aI]) (by simp[AV.aI]) (by simp[eH,outs])
 have va:=aM a;have vb:=aM b;have vm:=aM m;simp only[go_sem,seval];repeat' first|simp only[go_sem,seval,true_or,or_true,false_or,or_false,af,fU,dH,fG,eY,eZ,dJ,mR,nM,ft,fK,cJ,aE,AV.aI,AV.aI.renL,aA,cb,bI]|refine cP va ?_|refine cP vb ?_|refine cP vm ?_|(refine ae ?_)|refine sB ?_|(first|apply pX|apply bX)<;>intro hc|refine⟨oD,?_⟩|exact oD|fail
 all_goals simp_all[qh]
theorem O8 {a m:Nat} (ha:a<18446744073709551616) (hm:m<18446744073709551616) (h0:0<m):qh [aP a] (aP m)=0:=by
 have:aP m≠[]:=fun h=>by rw[gI]at h;omega
 simp[qh,vN ha,vN hm,this]
theorem sT {a m:Nat} {e:Bytes} (ha:a<18446744073709551616) (he:aa e=true) (hm:m<18446744073709551616) (h0:0<m):qh [aP a,e] (aP m)=0:=by
 have:aP m≠[]:=fun h=>by rw[gI]at h;omega
 simp[qh,vN ha,he,vN hm,this]
theorem De {a:Nat} (h:a<18446744073709551616):aD Tryz.prog 130 [N a] (.tup [.i .u64 a, .b true]):=by
 have:=mD (aP a);rw[vN h,decide_eq_true (lN h),aK]at this;exact this
theorem Ep {a b m:Nat} (ha:a<18446744073709551616) (hb:b<18446744073709551616) (hm:m<18446744073709551616) (h0:0<m):aD Tryz.prog 164 [N a,N b,N m] (N (a*b%m)):=by
 have la:=lN ha;have lb:=lN hb;have lm:=lN hm;have h1:a%m<18446744073709551616:=dQ (Nat.mod_le _ _) ha;have h2:b%m<18446744073709551616:=dQ (Nat.mod_le _ _) hb;have hq:=pU (a%m) (b%m) h1 h2;have h3:a%m*(b%m)/18446744073709551616<18446744073709551616:=(gv (by decide)).2 (fO h1 h2)
 have hr:=Io (a%m*(b%m)/18446744073709551616) (a%m*(b%m)%18446744073709551616) m h0 h3 (aG _ (by decide)) hm
 have e:a%m*(b%m)/18446744073709551616*18446744073709551616+a%m*(b%m)%18446744073709551616=a%m*(b%m):=by omega
 rw[e,←cz]at hr;have ho:=jT (a*b%m) (ie (aG _ h0) hm);have sa:=De ha;have sb:=De hb;have sm:=De hm;clear h3 e h1 h2;refine eW Tryz.call164 Tryz.func164 ?_;repeat' first|simp only[go_sem,seval]|refine cP sa ?_|refine cP sb ?_|refine cP sm ?_|refine cP hq ?_|refine cP hr ?_|refine cP ho ?_|refine sB ?_|(first|apply pX|apply bX)<;>intro hc|refine⟨oD,?_⟩|exact oD|fail
theorem j8 {a m:Nat} (ha:a<18446744073709551616) (hm:m<18446744073709551616) (h0:0<m):aD Tryz.prog 162 [N a,N m] (N (a%m)):=by
 refine eW Tryz.call162 Tryz.func162 ?_;repeat' first|simp only[go_sem,seval]|refine cP (pR ha hm h0) ?_|refine sB ?_|(first|apply pX|apply bX)<;>intro hc|refine⟨oD,?_⟩|exact oD|fail
theorem nX {a b m:Nat} (ha:a<18446744073709551616) (hb:b<18446744073709551616) (hm:m<18446744073709551616) (h0:0<m):aD Tryz.prog 128 [N a,N b,N m] (.tup [N (a*b%m),E 0]):=by
 have hc:=fun nm=>za nm (aP a) (aP b) (aP m)
 rw[sT ha (vN hb) hm h0]at hc;refine eW Tryz.call128 Tryz.func128 ?_;repeat' first|simp only[go_sem,seval]|(refine br (hc _) (by simp) ?_)|refine cP (Ep ha hb hm h0) ?_|refine sB ?_|(first|apply pX|apply bX)<;>intro hc|refine⟨oD,?_⟩|exact oD|fail
theorem GQ (e:Bytes):aD Tryz.prog 163 [.s e] (.fc 239 [] [.pt (.agg [.s e]) 0]):=by
 refine eW Tryz.call163 Tryz.func163 ?_;repeat' first|simp only[go_sem,seval]|refine sB ?_|(first|apply pX|apply bX)<;>intro hc|refine⟨oD,?_⟩|exact oD|fail
theorem Bv (n:Nat): ∀k,∀y∈Dx n k,y.length=1
 |0,y,h=>by cases h
 |k+1,y,h=>by
  rcases bL.1 h with rfl|h
  ·rfl
  ·exact Bv n k y h
theorem dY:(.s [1]:PV)=N 1:=rfl
theorem PE {a z m:Nat}:a^z%m*(a^z%m)%m=a^(2*z)%m:=by rw[←cz,←ct,oL]
theorem Sx {a z m:Nat}:a^z%m*(a^z%m)%m*(a%m)%m=a^(2*z+1)%m:=by rw[PE,←cz,←Nat.pow_succ]
theorem S8 {a m:Nat} {e:Bytes} (ha:a<18446744073709551616) (he:aa e=true) (hm:m<18446744073709551616) (h0:0<m):aD Tryz.prog 108 [N a, .s e,N m] (.tup [N (a^num e%m),E 0]):=by
 have hc:=fun nm=>za nm (aP a) e (aP m)
 rw[sT ha he hm h0]at hc;have h1:=j8 (a:=1) (by decide) hm h0
 refine eW Tryz.call108 Tryz.func108 ?_;simp only[go_sem,seval,dY];repeat' first|simp only[go_sem,seval,dY]|(refine br (hc _) (by simp) ?_)|refine cP (j8 ha hm h0) ?_|refine cP h1 ?_|refine cP (GQ e) ?_|(refine Ie (GO e he) rfl (Bv _ _) ?_)|refine sB ?_|(first|apply pX|apply bX)<;>intro hc|refine⟨oD,?_⟩|exact oD|fail
 obtain⟨n,hn⟩: ∃n,n=num e:=⟨_,rfl⟩;rw[←hn];have hbl:n/2^cd n=0:=by
  refine gn ?_;unfold cd;split
  ·subst_vars;rename_i h;rw[h];decide
  ·rename_i h;exact rp
 refine Sq (α:=Nat) (fun k=>⟨[(3, .p 1000 0 0),(5, .p 1001 0 0),(9, .p 1019 0 0)],[(1000,⟨0,[.v (N (a%m))],false,none⟩),(1001,⟨0,[.v (N m)],false,none⟩),(1019,⟨0,[.v (N (a^(n/2^k)%m))],false,some 22⟩)],_⟩) (fun ys k=>ys=Dx n k) (cd n) (fun _=>au _) rfl ?_ ?_ ?_
 ·(refine AS.Le.of (by first|decide|omega) ?_ ?_<;>simp[cl,cj,aF,ar,AV.bd,AV.bd.bdL,u8,ah,ai,aq])
  rw[hbl,Nat.pow_zero]
 ·intro k hk
  cases k with
  |succ k=>cases hk
  |zero=>
   repeat' first|simp only[go_sem,seval]|refine sB ?_|(first|apply pX|apply bX)<;>intro hc|refine⟨oD,?_⟩|exact oD|fail
   rw[iY]
 ·intro y ys k hk R hR
  cases k with
  |zero=>cases hk
  |succ k=>
   simp only[Dx,List.cons.injEq]at hk;obtain⟨rfl,rfl⟩:=hk;obtain⟨x,hx⟩: ∃x,x=a^(n/2^(k+1))%m:=⟨_,rfl⟩;have hxm:x<m:=by rw[hx];exact aG _ h0
   have t1:=Ep (a:=x) (b:=x) (by omega) (by omega) hm h0
   have hxx:x*x%m<m:=aG _ h0;have ham:a%m<m:=aG _ h0;have t2:=Ep (a:=x*x%m) (b:=a%m) (by omega) (by omega) hm h0
   have hbit:=jS (x:=n) (i:=k);have hdd:n/2^(k+1)=n/2^k/2:=by rw[Nat.pow_succ,dZ]
   rw[←hx,hbit];repeat' first|simp only[go_sem,seval]|refine cP t1 ?_|refine cP t2 ?_|refine sB ?_|(first|apply pX|apply bX)<;>intro hc|refine⟨oD,?_⟩|exact oD|fail
   ·have hb2:n/2^k=2*(n/2^(k+1))+1:=by omega
    refine hR k rfl _ ?_;rw[hb2,hx,Sx];exact lE
   ·have hb2:n/2^k=2*(n/2^(k+1)):=by omega
    refine hR k rfl _ ?_;rw[hb2,hx,PE];exact lE
theorem NS (n:Nat):(aP n==([1]:Bytes))=decide (n=1):=sS n 1
end Go.Proofs.YtmobkhegihemeaaGreatDoor
namespace Go.Proofs.YtmobkhegihemeaaGreatDoor
open Go Go.Dom Go.Num
set_option maxRecDepth 100000
set_option maxHeartbeats 4000000

abbrev G (m o:Bytes):PV:= .agg [.s m, .s o]
theorem fq {a:Bytes} (h:aa a=true):N (num a)= .s a:=congrArg PV.s (fW h)
def gV (m o:Bytes):Bool:=aa m&&o==[]&&(num m).testBit 0&&decide (8<num m)
theorem We:aD Tryz.prog 31 [.i .u64 8] (.s [8]):=jT 8 (by decide)
theorem pV:aD Tryz.prog 31 [.i .u64 1] (.s [1]):=jT 1 (by decide)
theorem Ta:aD Tryz.prog 31 [.i .u64 2] (.s [2]):=jT 2 (by decide)
theorem Np (m o:Bytes):aD Tryz.prog 214 [G m o] (.b (gV m o)):=by
 have hv:=aM m
 by_cases h:aa m=true
 ·have hb:=uM h 0 (by decide)
  have hcm:=kL m [8];rw[h]at hv;rw[h,show aa [8]=true from rfl,show num [8]=8 from rfl]at hcm
  have he:a6 (num m) 8>0↔8<num m:=by unfold a6;split<;>(try split)<;>omega
  refine eW Tryz.call214 Tryz.func214 ?_;repeat' first|simp only[go_sem,seval]|refine cP hv ?_|refine cP hb ?_|refine cP We ?_|refine cP hcm ?_|refine sB ?_|(first|apply pX|apply bX)<;>intro hc|refine⟨oD,?_⟩|exact oD|fail
  all_goals simp_all[gV]
 ·have h:aa m=false:=by simpa using h
  rw[h]at hv;have e:gV m o=false:=by simp[gV,h]
  rw[e];refine eW Tryz.call214 Tryz.func214 ?_;repeat' first|simp only[go_sem,seval]|refine cP hv ?_|refine sB ?_|(first|apply pX|apply bX)<;>intro hc|refine⟨oD,?_⟩|exact oD|fail
theorem Ol:aD Tryz.prog 216 [] (N 1):=by
 refine eW Tryz.call216 Tryz.func216 ?_;repeat' first|simp only[go_sem,seval]|refine cP pV ?_|refine sB ?_|(first|apply pX|apply bX)<;>intro hc|refine⟨oD,?_⟩|exact oD|fail
 all_goals rfl
def w9 (m o x:Bytes):Bool:=gV m o&&aa x&& !(x==[])&&decide (num x<num m)&&decide (Nat.gcd (num x) (num m)=1)
theorem vk (a b:Nat):(a6 a b≥0)=(b≤a):=by
 unfold a6;rw[eq_iff_iff];split<;>(try split)<;>omega
theorem Od {m:Bytes} (lm:m.length≤8) (o x:Bytes):aD Tryz.prog 137 [G m o, .s x] (.b (w9 m o x)):=by
 have hg:=Np m o;have hv:=aM x
 by_cases h:gV m o=true∧aa x=true∧x≠[]∧num x<num m
 ·obtain⟨h1,h2,h3,h4⟩:=h;have hm:aa m=true:=by simp[gV]at h1;exact h1.1.1.1
  have hcm:=kL x m;rw[h2,hm]at hcm;have hnm:=ep lm;have hgc:=U9 (a:=num x) (b:=num m) (by omega) hnm
  rw[fq h2,fq hm]at hgc;rw[h1]at hg;rw[h2]at hv;have hx:(x==([]:Bytes))=false:=by simpa using h3
  have hlt: ¬a6 (num x) (num m)≥0:=by rw[vk];omega
  have e:w9 m o x=decide (Nat.gcd (num x) (num m)=1):=by simp[w9,h1,h2,h4];intro;exact h3
  rw[e];refine eW Tryz.call137 Tryz.func137 ?_;repeat' first|simp only[go_sem,seval,hx,sS]|refine cP hg ?_|refine cP hv ?_|refine cP hcm ?_|refine cP hgc ?_|refine cP Ol ?_|refine sB ?_|(first|apply pX|apply bX)<;>intro hc|refine⟨oD,?_⟩|exact oD|fail
  all_goals skip
 ·have e:w9 m o x=false:=by
   rw[fj];intro g;simp[w9]at g;exact h ⟨g.1.1.1.1,g.1.1.1.2,g.1.1.2,g.1.2⟩
  have hcm:=kL x m;rw[e]
  by_cases h1:gV m o=true
  ·have hm:aa m=true:=by simp[gV]at h1;exact h1.1.1.1
   rw[h1]at hg
   by_cases h2:aa x=true
   ·rw[h2]at hv;rw[h2,hm]at hcm
    by_cases h3:x=[]
    ·subst h3;refine eW Tryz.call137 Tryz.func137 ?_;repeat' first|simp only[go_sem,seval,nn]|refine cP hg ?_|refine cP hv ?_|refine sB ?_|(first|apply pX|apply bX)<;>intro hc|refine⟨oD,?_⟩|exact oD|fail
    ·have hx:(x==([]:Bytes))=false:=by simpa using h3
     have hge:a6 (num x) (num m)≥0:=by rw[vk];exact Nat.le_of_not_lt fun g=>h ⟨h1,h2,h3,g⟩
     refine eW Tryz.call137 Tryz.func137 ?_;repeat' first|simp only[go_sem,seval,hx]|refine cP hg ?_|refine cP hv ?_|refine cP hcm ?_|refine sB ?_|(first|apply pX|apply bX)<;>intro hc|refine⟨oD,?_⟩|exact oD|fail
     all_goals skip
   ·have h2:aa x=false:=by simpa using h2
    rw[h2]at hv;refine eW Tryz.call137 Tryz.func137 ?_;repeat' first|simp only[go_sem,seval]|refine cP hg ?_|refine cP hv ?_|refine sB ?_|(first|apply pX|apply bX)<;>intro hc|refine⟨oD,?_⟩|exact oD|fail
  ·have h1:gV m o=false:=by simpa using h1
   rw[h1]at hg;refine eW Tryz.call137 Tryz.func137 ?_;repeat' first|simp only[go_sem,seval]|refine cP hg ?_|refine sB ?_|(first|apply pX|apply bX)<;>intro hc|refine⟨oD,?_⟩|exact oD|fail
structure WL (m o p q:Bytes):Prop where
 vm:aa m=true
 vp:aa p=true
 vq:aa q=true
 lp:p.length≤8
 lq:q.length≤8
 o:o=[]
 mul:num m=num p*num q
 odd:num m%2=1
 sp:JS (num p)=true
 sq:JS (num q)=true
 ne:num p≠num q
theorem tQ (n:Bool) (a:Bytes):aD Tryz.prog 99 [.b n, .s a] (.agg [.b (n&& !(a==[])), .s a]):=by
 refine eW Tryz.call99 Tryz.func99 ?_;repeat' first|simp only[go_sem,seval]|refine sB ?_|(first|apply pX|apply bX)<;>intro hc|refine⟨oD,?_⟩|exact oD|fail
 all_goals simp_all
theorem fJ (n:Bool) (a:Bytes):aD Tryz.prog 171 [.agg [.b n, .s a]] (.b (aa a&& !(n&&a==[]))):=by
 have hv:=aM a;refine eW Tryz.call171 Tryz.func171 ?_;repeat' first|simp only[go_sem,seval]|refine cP hv ?_|refine sB ?_|(first|apply pX|apply bX)<;>intro hc|refine⟨oD,?_⟩|exact oD|fail
 all_goals simp_all
theorem oo {a:Bytes} (h:aa a=true):aD Tryz.prog 47 [.s a] (.agg [.b false, .s a]):=by
 have hv:=aM a;rw[h]at hv;refine eW Tryz.call47 Tryz.func47 ?_;repeat' first|simp only[go_sem,seval]|refine cP hv ?_|refine cP (tQ _ _) ?_|refine sB ?_|(first|apply pX|apply bX)<;>intro hc|refine⟨oD,?_⟩|exact oD|fail
 all_goals simp_all
theorem G5 (m o:Bytes):aD Tryz.prog 54 [G m o] (.b (aa m&&aa o)):=by
 have v1:=aM m;have v2:=aM o;refine eW Tryz.call54 Tryz.func54 ?_;repeat' first|simp only[go_sem,seval]|refine cP v1 ?_|refine cP v2 ?_|refine sB ?_|(first|apply pX|apply bX)<;>intro hc|refine⟨oD,?_⟩|exact oD|fail
 all_goals simp_all
theorem Vh {a b:Nat} (ha:a<18446744073709551616) (hb:b<18446744073709551616):aD Tryz.prog 94 [N a,N b] (.tup [if b≤a then N (a-b)else .s [],E (if b≤a then 0 else 2)]):=by
 have:=Ip (aP a) (aP b);simp only[sK,vN ha,vN hb,dh,if_true,aK]at this
 by_cases h:b≤a
 ·simp only[h,if_true]at this⊢;exact this
 ·simp only[h,if_false]at this⊢;exact this
def lO (m o x:Bytes):Bool:=aa m&&aa o&&aa x&& !(o==[])&& !(x==[])&&decide (num x<num m)&&decide (num x^num o%num m=1%num m)
theorem Kw {m:Bytes} (lm:m.length≤8) (o x:Bytes):aD Tryz.prog 56 [G m o, .s x] (.b (lO m o x)):=by
 have hf:=G5 m o;have vx:=aM x;have hcm:=kL x m
 by_cases h:aa m=true∧aa o=true∧aa x=true∧o≠[]∧x≠[]∧num x<num m
 ·obtain⟨v1,v2,v3,h4,h5,h6⟩:=h;have e4:(o==([]:Bytes))=false:=by simpa using h4
  have e5:(x==([]:Bytes))=false:=by simpa using h5
  have hn:=ep lm;have hE:=S8 (a:=num x) (m:=num m) (e:=o) (by omega) v2 hn (by omega)
  have hE0:=S8 (a:=num x) (m:=num m) (e:=[]) (by omega) rfl hn (by omega)
  rw[fq v3,fq v1]at hE hE0;rw[show num ([]:Bytes)=0 from rfl,Nat.pow_zero]at hE0
  rw[v1,v2]at hf;rw[v3]at vx;rw[v3,v1]at hcm;have hlt: ¬a6 (num x) (num m)≥0:=by rw[vk];omega
  have e:lO m o x=decide (num x^num o%num m=1%num m):=by simp[lO,v1,v2,v3,e4,e5,h6]
  rw[e];generalize num x^num o%num m=z1 at*;generalize 1%num m=z2 at*;refine eW Tryz.call56 Tryz.func56 ?_;repeat' first|simp only[go_sem,seval,e4,e5,sS]|refine cP hf ?_|refine cP vx ?_|refine cP hcm ?_|refine cP hE ?_|refine cP hE0 ?_|refine sB ?_|(first|apply pX|apply bX)<;>intro hc|refine⟨oD,?_⟩|exact oD|fail
  all_goals simp_all
 ·have e:lO m o x=false:=by
   rw[fj];intro g;simp[lO]at g;exact h ⟨g.1.1.1.1.1.1,g.1.1.1.1.1.2,g.1.1.1.1.2,g.1.1.1.2,g.1.1.2,g.1.2⟩
  rw[e]
  by_cases v1:aa m=true<;>by_cases v2:aa o=true<;>by_cases v3:aa x=true
  ·rw[v1,v2]at hf;rw[v3]at vx;rw[v3,v1]at hcm
   by_cases h4:o=[]
   ·subst h4;refine eW Tryz.call56 Tryz.func56 ?_;repeat' first|simp only[go_sem,seval,nn]|refine cP hf ?_|refine cP vx ?_|refine sB ?_|(first|apply pX|apply bX)<;>intro hc|refine⟨oD,?_⟩|exact oD|fail
   ·have e4:(o==([]:Bytes))=false:=by simpa using h4
    by_cases h5:x=[]
    ·subst h5;refine eW Tryz.call56 Tryz.func56 ?_;repeat' first|simp only[go_sem,seval,nn,e4]|refine cP hf ?_|refine cP vx ?_|refine sB ?_|(first|apply pX|apply bX)<;>intro hc|refine⟨oD,?_⟩|exact oD|fail
    ·have e5:(x==([]:Bytes))=false:=by simpa using h5
     have hge:a6 (num x) (num m)≥0:=by rw[vk];exact Nat.le_of_not_lt fun g=>h ⟨v1,v2,v3,h4,h5,g⟩
     refine eW Tryz.call56 Tryz.func56 ?_;repeat' first|simp only[go_sem,seval,e4,e5]|refine cP hf ?_|refine cP vx ?_|refine cP hcm ?_|refine sB ?_|(first|apply pX|apply bX)<;>intro hc|refine⟨oD,?_⟩|exact oD|fail
  all_goals simp only[Bool.not_eq_true]at v1 v2 v3
  all_goals simp only[v1,v2,kA,qX,dh,bZ,ec]at hf
  all_goals simp only[v3]at vx
  ·refine eW Tryz.call56 Tryz.func56 ?_;repeat' first|simp only[go_sem,seval]|refine cP hf ?_|refine cP vx ?_|refine sB ?_|(first|apply pX|apply bX)<;>intro hc|refine⟨oD,?_⟩|exact oD|fail
  ·refine eW Tryz.call56 Tryz.func56 ?_;repeat' first|simp only[go_sem,seval]|refine cP hf ?_|refine cP vx ?_|refine sB ?_|(first|apply pX|apply bX)<;>intro hc|refine⟨oD,?_⟩|exact oD|fail
  ·refine eW Tryz.call56 Tryz.func56 ?_;repeat' first|simp only[go_sem,seval]|refine cP hf ?_|refine cP vx ?_|refine sB ?_|(first|apply pX|apply bX)<;>intro hc|refine⟨oD,?_⟩|exact oD|fail
  ·refine eW Tryz.call56 Tryz.func56 ?_;repeat' first|simp only[go_sem,seval]|refine cP hf ?_|refine cP vx ?_|refine sB ?_|(first|apply pX|apply bX)<;>intro hc|refine⟨oD,?_⟩|exact oD|fail
  ·refine eW Tryz.call56 Tryz.func56 ?_;repeat' first|simp only[go_sem,seval]|refine cP hf ?_|refine cP vx ?_|refine sB ?_|(first|apply pX|apply bX)<;>intro hc|refine⟨oD,?_⟩|exact oD|fail
  ·refine eW Tryz.call56 Tryz.func56 ?_;repeat' first|simp only[go_sem,seval]|refine cP hf ?_|refine cP vx ?_|refine sB ?_|(first|apply pX|apply bX)<;>intro hc|refine⟨oD,?_⟩|exact oD|fail
  ·refine eW Tryz.call56 Tryz.func56 ?_;repeat' first|simp only[go_sem,seval]|refine cP hf ?_|refine cP vx ?_|refine sB ?_|(first|apply pX|apply bX)<;>intro hc|refine⟨oD,?_⟩|exact oD|fail
end Go.Proofs.YtmobkhegihemeaaGreatDoor
namespace Go.Dom
noncomputable def iJ (m x:Nat) (z:Int):Nat:=cL m x (decide (z<0)) z.natAbs
theorem nc {m x y:Nat} (h:x*y%m=1%m) (n k:Nat):x^(n+k)*y^k%m=x^n%m:=by
 rw[ct,bY,←uA,cz,jD (x*y) k m,h,←jD,qY,←cz,dP]
theorem lQ (m x:Nat) (n:Nat):iJ m x (n:Int)=x^n%m:=by
 unfold iJ cL;rw[decide_eq_false (by omega)];simp
theorem iP {m x:Nat} (n:Nat):iJ m x (-(n:Int))=eV x m^n%m:=by
 unfold iJ cL
 by_cases h:n=0
 ·subst h;simp
 ·rw[decide_eq_true (by omega)];simp
theorem Cd {m x:Nat} (h:fk m x) (hm:0<m) (a b:Int):iJ m x a*iJ m x b%m=iJ m x (a+b):=by
 obtain⟨h1,h2⟩:=h.inv;have h3:eV x m*x%m=1%m:=by rw[a7];exact h2
 rcases Int.eq_nat_or_neg a with⟨n,rfl|rfl⟩<;>rcases Int.eq_nat_or_neg b with⟨k,rfl|rfl⟩
 ·rw[lQ,lQ,←cz,←ct,←lQ];simp
 ·rw[lQ,iP,←cz];rcases Nat.le_total k n with hk|hk
  ·obtain⟨d,rfl⟩:=tZ hk;rw[fP k d,nc h2,←lQ];congr 1;omega
  ·obtain⟨d,rfl⟩:=tZ hk;rw[a7,fP n d,nc h3,←iP];congr 1;omega
 ·rw[lQ,iP,←cz];rcases Nat.le_total k n with hk|hk
  ·obtain⟨d,rfl⟩:=tZ hk;rw[fP k d,nc h3,←iP];congr 1;omega
  ·obtain⟨d,rfl⟩:=tZ hk;rw[a7,fP n d,nc h2,←lQ];congr 1;omega
 ·rw[iP,iP,←cz,←ct,←iP];congr 1;omega
theorem Kz {m x:Nat} (h:fk m x) (hm:0<m) (w c:Nat):iJ m (x^w%m) (-(c:Int))=iJ m x (-((c*w:Nat):Int)):=by
 rw[iP,iP,(h.pow hm w).2,j7,a7 c w]
theorem Co {m x:Nat} (h:fk m x) (hm:0<m) (a:Int) (w c:Nat):iJ m (x^w%m) (-(c:Int))*iJ m x (a+(c*w:Nat))%m=iJ m x a:=by
 rw[Kz h hm,Cd h hm];congr 1;omega
theorem HA (m x:Nat):iJ m x 0=1%m:=sw _ _ _
theorem yH {m x:Nat} (h:fk m x) (hm:0<m) (a b:Int):iJ m (iJ m x a) b=iJ m x (a*b):=by
 unfold iJ;rw[HC h hm,kC]
 by_cases h0:a.natAbs*b.natAbs=0
 ·rw[h0,sw,sw]
 ·congr 1;have ha:a≠0:=fun e=>h0 (by simp[e])
  have hb:b≠0:=fun e=>h0 (by simp[e])
  rw[dx];simp only[bne_iff_ne,ne_eq,decide_eq_decide,decide_eq_true_eq];rcases Int.lt_or_gt_of_ne ha with h1|h1<;>rcases Int.lt_or_gt_of_ne hb with h2|h2
  ·have:=Int.mul_pos_of_neg_of_neg h1 h2;generalize a*b=c at*;omega
  ·have:=Int.mul_neg_of_neg_of_pos h1 h2;generalize a*b=c at*;omega
  ·have:=Int.mul_neg_of_pos_of_neg h1 h2;generalize a*b=c at*;omega
  ·have:=Int.mul_pos h1 h2;generalize a*b=c at*;omega
theorem Kx (m x:Nat) (z:Int):iJ m x z%m=iJ m x z:=dt _ _
theorem Lt {m:Nat} (hm:0<m):fk m (1%m):=⟨1%m,aG _ hm,by rw[←cz,ko]⟩
variable {α:Type} {m:Nat} (b:α→Nat)
theorem Ky {x o:Nat} (hx:fk m x) (hm:0<m) (ho:x^o%m=1%m) {a c:Int} (h:(o:Int)∣a-c):iJ m x a=iJ m x c:=by
 obtain⟨k,hk⟩:=h;have e:a=c+o*k:=by omega
 have h1:iJ m x (o*k)=1%m:=by
  rw[←yH hx hm,lQ,ho];have:=yH (Lt hm) hm 0 k
  rwa[Int.zero_mul,HA]at this
 rw[e,←Cd hx hm,h1,jQ,dP,Kx]
end Go.Dom
namespace Go.Dom
def Cg (q a b:Int):Prop:= ∃k,a-b=q*k
namespace Cg
variable {q a b c d:Int}
theorem KV (a:Int):Cg q a a:=⟨0,by grind⟩
theorem of_eq (h:a=b):Cg q a b:=h▸KV a
theorem symm (h:Cg q a b):Cg q b a:=by obtain⟨k,h⟩:=h;exact⟨-k,by grind⟩
theorem trans (h:Cg q a b) (g:Cg q b c):Cg q a c:=by
 obtain⟨k,h⟩:=h;obtain⟨l,g⟩:=g;exact⟨k+l,by grind⟩
theorem add (h:Cg q a b) (g:Cg q c d):Cg q (a+c) (b+d):=by
 obtain⟨k,h⟩:=h;obtain⟨l,g⟩:=g;exact⟨k+l,by grind⟩
theorem sub (h:Cg q a b) (g:Cg q c d):Cg q (a-c) (b-d):=by
 obtain⟨k,h⟩:=h;obtain⟨l,g⟩:=g;exact⟨k-l,by grind⟩
theorem mul (h:Cg q a b) (g:Cg q c d):Cg q (a*c) (b*d):=by
 obtain⟨k,h⟩:=h;obtain⟨l,g⟩:=g;exact⟨k*c+b*l,by grind⟩
theorem emod (q a:Int):Cg q (a%q) a:=⟨-(a/q),by have:=Int.mul_ediv_add_emod a q;grind⟩
end Cg
def Iv (q a:Int):Prop:= ∃b,Cg q (a*b) 1
theorem Iv.mul {q a b:Int} (h:Iv q a) (g:Iv q b):Iv q (a*b):=by
 obtain⟨x,h⟩:=h;obtain⟨y,g⟩:=g;exact⟨x*y,(Cg.of_eq (by grind)).trans (h.mul g)⟩
theorem Iv.one (q:Int):Iv q 1:=⟨1,Cg.of_eq rfl⟩
theorem Iv.neg {q a:Int} (h:Iv q a):Iv q (-a):=by
 obtain⟨x,h⟩:=h;exact⟨-x,(Cg.of_eq (by grind)).trans h⟩
theorem Iv.cg {q a b:Int} (h:Iv q a) (g:Cg q a b):Iv q b:=by
 obtain⟨x,h⟩:=h;exact⟨x,(g.symm.mul (Cg.KV x)).trans h⟩
def Wl:List Int→Int→Int
 |[],_=>0
 |a::p,x=>a+x*Wl p x
def quo (a:Int):List Int→List Int
 |[]=>[]
 | _::p=>match p with
  |[]=>[]
  |b::r=>Wl (b::r) a::quo a (b::r)
def SN (q:Int):List Int→Prop
 |[]=>True
 |a::l=>(∀x∈l,Iv q (x-a))∧SN q l
def LK:List Int→List Int→List Int
 |[],b=>b
 |a,[]=>a
 |a::p,b::r=>(a+b)::LK p r
theorem FI: ∀p r:List Int,(LK p r).length=max p.length r.length
 |[],r=>by simp[LK]
 |a::p,[]=>by simp[LK]
 |a::p,b::r=>by
  have:=FI p r;simp only[LK,List.length_cons];omega
def RX (l:List Int) (x:Int):Int:=(l.map fun a=>x-a).prod
theorem Cf (a:Int) (l:List Int) (x:Int):RX (a::l) x=(x-a)*RX l x:=by simp[RX]
theorem RY {q:Int} {l:List Int} {x:Int} (h: ∀a∈l,Iv q (x-a)):Iv q (RX l x):=by
 induction l with
 |nil=>exact Iv.one q
 |cons a l ih=>rw[Cf];exact(h a (.head _)).mul (ih fun b hb=>h b (.tail _ hb))
theorem SN.iv {q:Int}: ∀{l:List Int} {i:Nat},SN q l→i<l.length→ ∀a∈l.eraseIdx i,Iv q (l.getD i 0-a)
 |[],_,_,hi,_,_=>by simp at hi
 |b::l,0,h,_,a,ha=>by
  have:=(h.1 a (by simpa using ha)).neg
  exact this.cg (Cg.of_eq (by simp only[cb];omega))
 |b::l,i+1,h,hi,a,ha=>by
  have hi':i<l.length:=by simpa using hi
  rw[bI];rw[List.eraseIdx_cons_succ]at ha;rcases bL.1 ha with rfl|ha
  ·refine h.1 _ ?_;rw[aX,aU hi'];exact jc hi'
  ·exact SN.iv h.2 hi' a ha
variable {q:Int} {l:List Int} {w:Nat→Int}
end Go.Dom
namespace Go.Dom
def UZ (q:Int) (p:List Int):List Int:=p.map (·%q)
theorem NH (q:Int) (p:List Int):(UZ q p).length=p.length:=aH ..
def kd (q:Int) (p:List Int) (a:Int):List Int:=UZ q (LK (0::p) (p.map (-a* ·)))
theorem oE (q a:Int) (p:List Int):(kd q p a).length=p.length+1:=by
 rw[kd,NH,FI,aH,List.length_cons];omega
def xR (q:Int) (l:List Int):List Int:=l.foldl (kd q) [1]
theorem FE (q:Int): ∀(l:List Int) (p:List Int),(l.foldl (kd q) p).length=p.length+l.length
 |[],p=>rfl
 |a::l,p=>by rw[List.foldl_cons,FE q l,oE,List.length_cons];omega
theorem zP (q:Int) (l:List Int):(xR q l).length=l.length+1:=by rw[xR,FE];simp;omega
def th (q x:Int) (l:List Int):Int:=l.foldl (fun s a=>s*((x-a)%q)%q) 1
theorem K5 (q x:Int): ∀(l:List Int) (s:Int),Cg q (l.foldl (fun s a=>s*((x-a)%q)%q) s) (s*RX l x)
 |[],s=>Cg.of_eq (by simp[RX])
 |a::l,s=>by
  rw[List.foldl_cons,Cf];exact(K5 q x l _).trans ((((Cg.emod q _).trans ((Cg.KV s).mul (Cg.emod q _))).mul (Cg.KV _)).trans (Cg.of_eq (by grind)))
theorem Su (q x:Int) (l:List Int):Cg q (th q x l) (RX l x):=(K5 q x l 1).trans (Cg.of_eq (by grind))
theorem wN: ∀(p r:List Int) (j:Nat),(LK p r).getD j 0=p.getD j 0+r.getD j 0
 |[],r,j=>by simp[LK]
 |a::p,[],j=>by simp[LK]
 |a::p,b::r,0=>rfl
 |a::p,b::r,j+1=>by
  simp only[LK,bI];exact wN p r j
theorem oC (f:Int→Int) (h:f 0=0): ∀(p:List Int) (j:Nat),(p.map f).getD j 0=f (p.getD j 0)
 |[],j=>by simp[h]
 |a::p,0=>rfl
 |a::p,j+1=>by simp only[ba,bI];exact oC f h p j
theorem wA (q:Int) (p:List Int) (j:Nat):(UZ q p).getD j 0=p.getD j 0%q:=oC _ (Int.zero_emod q) p j
theorem J9 (q a:Int) (p:List Int):(kd q p a).getD 0 0=(-a*p.getD 0 0)%q:=by
 rw[kd,wA,wN,oC (-a* ·) (by grind),cb,Int.zero_add]
theorem BZ (q a:Int) (p:List Int) (j:Nat):(kd q p a).getD (j+1) 0=(p.getD j 0+ -a*p.getD (j+1) 0)%q:=by
 rw[kd,wA,wN,oC (-a* ·) (by grind),bI]
theorem zA {α:Type} (d:α): ∀(l:List α) (j:Nat),l.length≤j→l.getD j d=d
 |[],j,_=>rfl
 |a::l,0,h=>by simp at h
 |a::l,j+1,h=>by rw[bI];exact zA d l j (by simpa using h)
def xL (q:Int) (P:Nat→List Int) (f:Nat→Int) (j:Nat):Nat→Int
 |0=>0
 |i+1=>(xL q P f j i+(P i).getD j 0*f i%q)%q
def tO (q:Int) (p:List Int) (x:Int):Int:=p.foldr (fun a y=>(y*x%q+a)%q) 0
variable {m:Nat}
variable {q:Nat} {l:List Int} {w:Nat→Int}
end Go.Dom
namespace Go.Dom
def HZ (q:Int) (l:List Int) (f:Nat→Int):List Int:=(List.range l.length).map fun j=>xL q (fun k=>xR q (l.eraseIdx k)) f j l.length
theorem vR {q:Int} (hq:0<q) (x:Int): ∀p:List Int,0≤tO q p x∧tO q p x<q
 |[]=>⟨kB _,hq⟩
 |a::p=>⟨fE _ (by omega),fQ _ hq⟩
theorem pf {q:Int} (hq:0<q) (P:Nat→List Int) (f:Nat→Int) (j:Nat): ∀n,0≤xL q P f j n∧xL q P f j n<q
 |0=>⟨kB _,hq⟩
 |n+1=>⟨fE _ (by omega),fQ _ hq⟩
theorem Iv.Rv {q a b:Nat} (h:a*b%q=1%q):Iv q a:=by
 refine⟨b,?_⟩;have h1:Cg q (((a*b%q:Nat):Int)) ((a*b:Nat):Int):=by rw[Int.natCast_emod];exact Cg.emod _ _
 have h2:Cg q (((1%q:Nat):Int)) ((1:Nat):Int):=by rw[Int.natCast_emod];exact Cg.emod _ _
 rw[←Int.natCast_mul];exact h1.symm.trans ((Cg.of_eq (by rw[h])).trans h2)
end Go.Dom
namespace Go.Dom
open Go.Num
theorem pz {q:Nat} (h:dS q=true):2≤q∧(q∈bz∨ ∀p∈bz,¬q%p=0):=by
 unfold dS at h
 split at h
 ·exact absurd h (by decide)
 ·rename_i h2;refine⟨by omega,?_⟩
  split at h
  ·rename_i p hf;have:=List.mem_of_find?_eq_some hf;exact .inl (by rw[show q=p by simpa using h];exact this)
  ·rename_i hf;exact .inr fun p hp hz=>by
    have:=List.find?_eq_none.1 hf p hp;simp[hz]at this
theorem Nc {q a:Nat} (h:dS q=true) (a0:0<a) (a8:a≤8) (hq:a<q):Nat.gcd a q=1:=by
 obtain⟨h2,h|h⟩:=pz h
 ·have hd: ∀q∈bz,∀a,a≤8→0<a→a<q→Nat.gcd a q=1:=by decide
  exact hd q h a a8 a0 hq
 ·have e2:=h 2 (by decide)
  have e3:=h 3 (by decide)
  have e5:=h 5 (by decide)
  have e7:=h 7 (by decide)
  rw[kD];obtain⟨r,hr⟩: ∃r,r=q%a:=⟨_,rfl⟩;rw[←hr];have hd: ∀a:Fin 9,∀r:Fin 9,r.1<a.1→(a.1%2=0∧r.1%2=0)∨(a.1%3=0∧r.1%3=0)∨(a.1%5=0∧r.1%5=0)∨(a.1%7=0∧r.1%7=0)∨Nat.gcd r.1 a.1=1:=by decide
  have hra:r<a:=hr▸aG _ a0;have hm: ∀p,a%p=0→q%p≠0→r%p≠0:=fun p hp hq hz=>by
   rw[hr,rq _ (Nat.dvd_of_mod_eq_zero hp)]at hz;exact hq hz
  rcases hd ⟨a,by omega⟩ ⟨r,by omega⟩ hra with⟨e,f⟩|⟨e,f⟩|⟨e,f⟩|⟨e,f⟩|e
  ·exact absurd f (hm 2 e e2)
  ·exact absurd f (hm 3 e e3)
  ·exact absurd f (hm 5 e e5)
  ·exact absurd f (hm 7 e e7)
  ·exact e
theorem Ju {q a:Nat} (h:dS q=true) (a0:0<a) (a8:a≤8) (hq:a<q):fk q a:=fA (by omega) (Nc h a0 a8 hq)
theorem Jt {q a:Nat} (h:dS q=true) (a0:0<a) (a8:a≤8) (hq:a<q):Iv q a:=by
 obtain⟨b,-,hb⟩:=Ju h a0 a8 hq;exact Iv.Rv hb
theorem Nd {q a b:Nat} (h:dS q=true) (hn:a≠b) (ha:a≤8) (hb:b≤8) (qa:a<q) (qb:b<q):Iv q ((a:Int)-b):=by
 rcases Nat.lt_or_gt_of_ne hn with g|g
 ·have:=(Jt h (a:=b-a) (by omega) (by omega) (by omega)).neg
  exact this.cg (Cg.of_eq (by omega))
 ·have:=Jt h (a:=a-b) (by omega) (by omega) (by omega)
  exact this.cg (Cg.of_eq (by omega))
theorem Fg {q:Nat} (h:dS q=true): ∀{l:List Nat},l.Nodup→(∀a∈l,a≤8∧a<q)→SN q (l.map fun a:Nat=>(a:Int))
 |[],_,_=>trivial
 |a::l,hd,hb=>by
  have hd:=oT.1 hd;refine⟨fun x hx=> ?_,Fg h hd.2 fun b hb'=>hb b (.tail _ hb')⟩
  obtain⟨b,hb',rfl⟩:=a5.1 hx;have ha:=hb a (.head _);have hbb:=hb b (.tail _ hb');exact Nd h (fun e=>hd.1 (e▸hb')) hbb.1 ha.1 hbb.2 ha.2
end Go.Dom
