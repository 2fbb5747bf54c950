/-
  Part of the proof, part FA23. Own work.
-/
import Derived.Test.YtfdjchnefpefbaaGreatDoorFA22
import Derived.RangeFuncKeeps
import Derived.RangeFuncLeaves
import Derived.Shelf.Abstract
import Derived.WalkKit
import Derived.OwnWalkIn
import Derived.TacticsInMore
import Derived.LoopNIn
import Derived.LoopIn
set_option linter.all false
namespace Go.Num
def Pr (n:Nat):Prop:=2<=n/\ ∀d,d∣n->d=1\/d=n
theorem Pr.Ra {p a:Nat} (h:Pr p) (ha: ¬p∣a):Nat.Coprime a p:=by
 rcases h.2 _ (B6 a p)with e|e
 ·exact e
 ·exact absurd (e▸Cd a p) ha
def bI:List Nat:=[2,3,5,7,11,13,17,19,23,29,31,37]
def Em:Nat->Nat->Nat
 |0,_=>0
 |f+1,n=>if n%2=1 then 0 else Em f (n/2)+1
def RL:Nat->Nat->Nat->Bool
 |0,_,_=>false
 |k+1,x,n=>x*x%n==n-1||RL k (x*x%n) n
def mO (n s d a:Nat):Bool:=(a%n)^d%n==1||(a%n)^d%n==n-1||RL (s-1) ((a%n)^d%n) n
def du (n:Nat):Bool:=
 if n<2 then false else
 match bI.find? fun p=>n%p==0 with
 |some p=>n==p
 |none=>bI.all fun a=>mO n (Em 64 (n-1)) ((n-1)/2^Em 64 (n-1)) a
def LF (n:Nat):Bool:=du n&&du ((n-1)/2)
end Go.Num
namespace Go.Proofs.YtfdjchnefpefbaaGreatDoor
open Go Go.Dom Go.Num
set_option maxRecDepth 100000
set_option maxHeartbeats 4000000
def Q3:List PV:=bI.map fun p:Nat=> .i .u64 (p:Int)
theorem Fp:aA Tryz.prog 263 [] (.agg Q3):=by
 refine eW Tryz.call263 Tryz.func263 ?_;repeat' first|simp only[go_sem,seval]|refine sB ?_|apply xX<;>intro hc|refine⟨oD,?_⟩|exact oD|fail
 rfl
theorem yg {a b m:Nat} (ha:a<m) (hb:b<m) (hm:m<18446744073709551616):aA Tryz.prog 266 [.i .u64 a, .i .u64 b, .i .u64 m] (.i .u64 (a*b%m:Nat)):=by
 have h1:=qS a b oO oO;have hp:a*b<m*18446744073709551616:=bj (Nat.mul_lt_mul_of_lt_of_le ha (jR hb) oO) (iw m oO);have h2:a*b/18446744073709551616<m:=(gK oC).2 hp;have h3:=CE (a*b/18446744073709551616) (a*b%18446744073709551616) m h2 (aD _ oC) hm;have e:a*b/18446744073709551616*18446744073709551616+a*b%18446744073709551616=a*b:=by omega
 rw[e]at h3;refine eW Tryz.call266 Tryz.func266 ?_;exact z2 @h1 @h3
theorem Hg (b k m:Nat):(b*b%m)^(k/2)%m=b^(2*(k/2))%m:=by rw[<-iM,<-Nat.pow_two,<-jo]
theorem Mp {x b k m:Nat} (h:k%2=1):x*b%m*(b*b%m)^(k/2)%m=x*b^k%m:=by
 rw[bM,Hg,dq,<-bM,bQ,<-vV];congr 3;omega
theorem Hf {x b k m:Nat} (h:k%2=0):x*(b*b%m)^(k/2)%m=x*b^k%m:=by
 rw[bM,Hg,<-bM];congr 3;omega
theorem Mv {a e m:Nat} (ha:a<m) (he:e<18446744073709551616) (hm:m<18446744073709551616):aA Tryz.prog 265 [.i .u64 a, .i .u64 e, .i .u64 m] (.i .u64 (a^e%m:Nat)):=by
 refine eW Tryz.call265 Tryz.func265 ?_;refine uZ ?_;refine af (α:=Nat×Nat×Nat) (fun x=>x.2.1) (fun x=>⟨[(0,U x.1),(1,U x.2.1),(2,U m),(7,U x.2.2)],[],_⟩) (fun x=>x.1<m/\x.2.1<18446744073709551616/\x.2.2<m/\x.2.2*x.1^x.2.1%m=a^e%m) (a,e,1%m) (fun _=>an _) ⟨ha,he,aD _ oO,by show 1%m*a^e%m= _;rw[bM,dq,<-bM,ia]⟩ ?_ ?_
 ·(refine AS.Le.of (by first|decide|omega) ?_ ?_<;>simp[dM,dL,aK,aj,AV.bd,AV.bd.bdL,u8,ai,ak,ar])
  rfl
 ·rintro⟨b,k,x⟩ ⟨h1,h2,h3,h4⟩ R hR;simp only at h1 h2 h3 h4;have hs:=yg h1 h1 hm;have hx:=yg h3 h1 hm;have hk:k/2<18446744073709551616:=by omega
  repeat' first|simp only[go_sem,seval,uw,aV hk]|refine cP hs ?_|refine cP hx ?_|refine sB ?_|apply xX<;>intro hc|refine⟨oD,?_⟩|exact oD|fail
  ·refine hR (b*b%m,k/2,x*b%m) ⟨aD _ oO,hk,aD _ oO,?_⟩ (by show k/2<k;omega) _ ?_
   ·show x*b%m*(b*b%m)^(k/2)%m= _;rw[Mp oO,h4]
   ·exact lE
  ·refine hR (b*b%m,k/2,x) ⟨aD _ oO,hk,h3,?_⟩ (by show k/2<k;omega) _ ?_
   ·show x*(b*b%m)^(k/2)%m= _;rw[Hf oO,h4]
   ·exact lE
  ·obtain rfl:k=0:=by omega
   rw[<-h4,Nat.pow_zero,dG,aV h3]
theorem RP: ∀f x,Lib.ctzFrom f x=Em f x
 |0,x=>rfl
 |f+1,x=>by simp only[Lib.ctzFrom,Em,RP f (x/2)];split<;>omega
theorem VK {i:Nat} (h:i<12):(List.map AV.v Q3).getD i .u=U (bI.getD i 0):=by
 have: ∀i:Fin 12,(List.map AV.v Q3).getD i.val .u=U (bI.getD i.val 0):=by
  intro i;rcases i with⟨i,hi⟩
  have h2:i<bI.length:=hi;simp[Q3,aR,h2]
 exact this ⟨i,h⟩
theorem ON {i:Nat} (h:i<12):0<bI.getD i 0/\bI.getD i 0<38:=by
 have: ∀i:Fin 12,0<bI.getD i.val 0/\bI.getD i.val 0<38:=by decide
 exact this ⟨i,h⟩
theorem Gk {i:Nat} (h:i<12):bI.drop i=bI.getD i 0::bI.drop (i+1):=by
 have h2:i<bI.length:=h;rw[iq h2,aR,bJ h2];rfl
theorem P6 {n:Nat} (hn:n<18446744073709551616):aA Tryz.prog 157 [.i .u64 n] (.b (du n)):=by
 by_cases h2:n<2
 ·have e:du n=false:=by simp[du,h2]
  rw[e];refine eW Tryz.call157 Tryz.func157 ?_;exact z0
 have hb:=Fp;have hL:(List.map AV.v Q3).length=12:=rfl;refine eW Tryz.call157 Tryz.func157 ?_;refine Vf @hb ?_;refine af (α:=Nat) (fun i=>12-i) (fun i=>⟨[(0,U n),(13, .v (.agg Q3)),(14,E' i)],[],_⟩) (fun i=>i<=12/\bI.find? (fun p=>n%p==0)=(bI.drop i).find? (fun p=>n%p==0)) 0 (fun _=>an _) ⟨by omega,rfl⟩ ?_ ?_
 ·exact lE
 ·rintro i ⟨hi,hf⟩ R hR
  by_cases hlt:i<12
  ·have g1:=VK hlt;obtain⟨q0,q1⟩:=ON hlt;rw[Gk hlt]at hf;generalize bI.getD i 0=q at*;repeat' first|simp only[go_sem,seval,g1,hL]|refine sB ?_|apply xX<;>intro hc|refine⟨oD,?_⟩|exact oD|fail
   ·have hz:(n%q==0)=true:=by rw[beq_iff_eq];omega
    rw[List.find?_cons,hz]at hf;unfold du;rw[if_neg h2,hf];congr 1;rw[dE];simp only[beq_iff_eq];omega
   ·have hz:(n%q==0)=false:=by rw[beq_eq_false_iff_ne];omega
    rw[List.find?_cons,hz]at hf;refine hR (i+1) ⟨by omega,hf⟩ oO _ ?_
    exact lE
  ·obtain rfl:i=12:=by omega
   have hf:bI.find? (fun p=>n%p==0)=none:=hf
   obtain⟨s,hs⟩: ∃s,s=Em 64 (n-1):=⟨_,rfl⟩;obtain⟨d,hd⟩: ∃d,d=(n-1)/2^s:=⟨_,rfl⟩;have hz:=qi (n-1) oO oO;have hs64:=(Lib.lowest_bit 64 (n-1) oO (by show n-1<18446744073709551616;omega)).2
   have hzs:Lib.ctz 64 (n-1)=s:=by rw[Lib.ctz,if_neg oO,RP,hs]
   rw[hzs]at hz hs64;have hdl:d<18446744073709551616:=by rw[hd];exact ec (dZ _ _) oO
   have e1: ∀ _:True,((n:Int)-1)=((n-1:Nat):Int):=fun _=>by omega
   have e2: ∀ _:True,(if s<=64 then s else 64)=s:=fun _=>by split<;>omega
   have e3: ∀ _:True,(n-1)/2^s=d:=fun _=>hd.symm
   have key:du n=bI.all (mO n s d):=by
    unfold du;rw[if_neg h2,hf,<-hs,<-hd]
   rw[key];clear key hf hzs hs hd;refine Xp (aN (e1 trivial) (aN (e2 trivial) (e3 trivial))) @hz @hb ?_;refine af (α:=Nat) (fun i=>12-i) (fun i=>⟨[(0,U n),(5,E' s),(6,U d),(32, .v (.agg Q3)),(33,E' i)],[],_⟩) (fun i=>i<=12/\bI.all (mO n s d)=(bI.drop i).all (mO n s d)) 0 (fun _=>an _) ⟨by omega,rfl⟩ ?_ ?_
   ·exact lE
   ·rintro i ⟨hi,hf⟩ R hR
    by_cases hlt:i<12
    ·have g1:=VK hlt;obtain⟨q0,q1⟩:=ON hlt;rw[Gk hlt,List.all_cons]at hf;have hR1:=hR (i+1);generalize bI.getD i 0=q at*;have hq:q%n<n:=aD _ oO;have hp:=Mv hq hdl hn;obtain⟨x,hx⟩: ∃x,x=(q%n)^d%n:=⟨_,rfl⟩;have hxl:x<n:=by rw[hx];exact aD _ oO
     have hst:mO n s d q=(x==1||x==n-1||RL (s-1) x n):=by rw[hx];rfl
     rw[<-hx]at hp;clear hx;repeat' first|simp only[go_sem,seval,g1,hL,e1 trivial]|refine cP hp ?_|refine sB ?_|apply xX<;>intro hc|refine⟨oD,?_⟩|exact oD|fail
     ·have hx1:x=1:=by omega
      refine hR1 ⟨by omega,by rw[hf,hst,hx1];simp⟩ oO _ ?_
      exact lE
     ·have hx1:x=n-1:=by omega
      refine hR1 ⟨by omega,by rw[hf,hst,hx1];simp⟩ oO _ ?_
      exact lE
     ·have hx1:(x==1)=false:=by rw[beq_eq_false_iff_ne];omega
      have hx2:(x==n-1)=false:=by rw[beq_eq_false_iff_ne];omega
      rw[hx1,hx2,ka,ka]at hst;refine af (α:=Nat×Nat) (fun z=>s-z.1) (fun z=>⟨[(0,U n),(5,E' s),(6,U d),(32, .v (.agg Q3)),(33,E' i),(9,U z.2),(10,E' z.1)],[],_⟩) (fun z=>1<=z.1/\z.2<n/\RL (s-z.1) z.2 n=RL (s-1) x n) (1,x) (fun _=>an _) ⟨an 1,hxl,rfl⟩ ?_ ?_
      ·exact lE
      ·rintro⟨j,y⟩ ⟨hj,hy,hz⟩ R' hR';simp only at hj hy hz;have hm:=yg hy hy hn;obtain⟨w,hw⟩: ∃w,w=y*y%n:=⟨_,rfl⟩;have hwl:w<n:=by rw[hw];exact aD _ oO
       have hz':j<s->(w==n-1||RL (s-(j+1)) w n)=RL (s-1) x n:=by
        intro g;rw[<-hz,show s-j=s-(j+1)+1 by omega,hw];rfl
       rw[<-hw]at hm;clear hw;repeat' first|simp only[go_sem,seval,e1 trivial]|refine cP hm ?_|refine sB ?_|apply xX<;>intro hc|refine⟨oD,?_⟩|exact oD|fail
       ·have hw1:w=n-1:=by omega
        have:=hz' oO;rw[hw1,beq_self_eq_true,iu]at this;refine hR1 ⟨by omega,by rw[hf,hst,<-this,cf]⟩ oO _ ?_
        exact lE
       ·have hw1:(w==n-1)=false:=by rw[beq_eq_false_iff_ne];omega
        have:=hz' oO;rw[hw1,ka]at this;refine hR' (j+1,w) ⟨by show 1<=j+1;omega,hwl,this⟩ (by show s-(j+1)<s-j;omega) _ ?_
        exact lE
       ·rw[hf,hst,<-hz,show s-j=0 by omega];rfl
    ·obtain rfl:i=12:=by omega
     refine wC ?_;rw[hf];rfl
theorem Fq (a:Bytes):aA Tryz.prog 156 [.s a] (.tup [.i .u64 (if aa a&&decide (a.length<=8)then num a else 0),E (if aa a then(if a.length<=8 then 0 else 5)else 3)]):=by
 have hs:=mS a;have hv:=aJ a;refine eW Tryz.call156 Tryz.func156 ?_;repeat' first|simp only[go_sem,seval]|refine cP hv ?_|refine cP hs ?_|refine sB ?_|apply xX<;>intro hc|refine⟨oD,?_⟩|exact oD|fail
 all_goals (simp_all<;>omega)
def iH (a:Bytes):Int:=if aa a then(if a.length<=8 then 0 else 5)else 3
theorem Ac (a:Bytes):aA Tryz.prog 94 [.s a] (.tup [.b (aa a&&decide (a.length<=8)&&du (num a)),E (iH a)]):=by
 have hs:=Fq a
 by_cases h:aa a=true/\a.length<=8
 ·obtain⟨h1,h2⟩:=h;have e:iH a=0:=by simp[iH,h1,h2]
  rw[h1,decide_eq_true h2]at hs;have hi:=P6 (dY h2);rw[h1,decide_eq_true h2,e];refine eW Tryz.call94 Tryz.func94 ?_;repeat' first|simp only[go_sem,seval,if_true,if_pos h2]|refine cP hs ?_|refine cP hi ?_|refine sB ?_|apply xX<;>intro hc|refine⟨oD,?_⟩|exact oD|fail
  all_goals skip
 ·have h0:(aa a&&decide (a.length<=8))=false:=by
   rw[eZ];intro g;simp at g;exact h g
  have e:iH a≠0:=by
   unfold iH;split
   ·rename_i g;rw[if_neg (fun g2=>h ⟨g,g2⟩)];decide
   ·decide
  rw[h0]at hs⊢;have e2:(if aa a then(if a.length<=8 then(0:Int)else 5)else 3)=iH a:=rfl
  rw[e2]at hs;refine eW Tryz.call94 Tryz.func94 ?_;repeat' first|simp only[go_sem,seval]|refine cP hs ?_|refine sB ?_|apply xX<;>intro hc|refine⟨oD,?_⟩|exact oD|fail
  all_goals skip
end Go.Proofs.YtfdjchnefpefbaaGreatDoor
namespace Go.Proofs.YtfdjchnefpefbaaGreatDoor
open Go Go.Dom Go.RowKit Go.Shelf
set_option maxRecDepth 100000
set_option maxHeartbeats 4000000
theorem aA.calls {P:Program} [bY P] {f:FuncId} {args:List PV} {r:PV} (h:aA P f args r) (he:Go.Dom.Enters P f f) (w:World) (rd:Rd) (vs:List Value) (h1: ∀b o v,TR P b o=some v->rd b o=some v) (h2: ∀b o v,rd b o=some v->w.cell? ⟨b,o,none⟩=some v) (h3:aZ (PR rd) args vs):
  CallsIn Fence.wide 0 P f vs.toArray w fun e w'=> ∃v,e= .returned v/\Below w.heap.size w w'/\PR (ff rd w w') r v:=by
 obtain⟨g,hg,hc⟩:=h;have:g=f:=by
  have a:=hg #[] w;rw[he #[] w]at a
  cases a;rfl
 subst this;exact callsIn_wide.2 (hc w rd vs h1 h2 h3)
def ET (n:Nat):Nat->List (List PV)
 |0=>[]
 |k+1=>[.b (n.testBit k)]::ET n k
theorem Ik (e:Bytes) (he:aa e=true):Xv Tryz.prog 476 [.pt (.agg [.s e]) 0] true (ET (num e) (b9 (num e))):=by
 refine⟨Tryz.call476,?_⟩;intro w rd cvs l J Jx htr hcaps hrd hb hbx hY _ h0;obtain⟨p,us,rfl,hp,hnil⟩:=hcaps.eY;obtain rfl:=hnil.dk;obtain⟨bk,of,rfl,hcell⟩: ∃bk of,p= .pointer (some ⟨bk,of,none⟩)/\rd bk of=some (.string ⟨e.toArray⟩):=by
  cases hp with
  |pt x o vs bk of h1 hl hr h=>
   obtain⟨v,rfl⟩:=nV.1 (show vs.length=1 from hl.symm)
   have:=h 0 (.s e) v rfl rfl;cases this;exact⟨bk,of,rfl,hr 0 _ rfl⟩
 refine callsIn_of_wp Tryz.func476 rfl trivial ?_;simp only[Tryz.ntmps476,kO,List.length_cons,List.length_nil,Nat.reduceAdd,Nat.reduceSub,Array.replicate_succ,Array.replicate_zero,List.push_toArray,List.append_toArray,List.nil_append,List.cons_append];have hc0:=hrd _ _ h0 _ _ _ hcell
 gi_wp2
 refine⟨trivial,rfl,(aA.calls (u5 he) Tryz.call131 w rd [_] htr (hrd _ _ h0) ?_).mono ?_⟩
 ·exact .cons (.s e) .nil
 rintro x w1 ⟨v,rfl,hbl,hpr⟩;cases hpr;have h1:=hb _ _ _ h0 hbl;clear hbl h0 hc0;have hbd:b9 (num e)<2^60:=by
  have hl:=cE he;have:=cb e;unfold b9;split
  ·decide
  ·rename_i h0;have h1:num e<2^(8*e.length):=by rw[jo];exact this
   have h2:=(wj h0).2 h1;omega
 have hw:IntKind.i64.wrap ((b9 (num e):Int)-1)=(b9 (num e):Int)-1:=IntWalk.i64_in _ oO
 gi_wp2
 gi_loopw [3] (fun p wr=> ∃k:Nat,p= .int .i64 ((k:Int)-1)/\k<=b9 (num e)/\J (ET (num e) k) wr) (fun p wr=>match p with| .int _ n=>(n+1).toNat| _=>0)
 case atStart=>
  exact⟨_,rfl,an _,h1⟩
 case round=>
  obtain⟨k,rfl,hk,hJ⟩:=hrel;have hcr:=hrd _ _ hJ _ _ _ hcell
  cases k with
  |zero=>
   gi_wp2
   go_end0
   exact⟨⟨_,rfl⟩, .inl hJ⟩
  |succ k=>
   have hw2:((k+1:Nat):Int)-1=(k:Int):=by omega
   rw[hw2]
   gi_wp2
   refine⟨trivial,rfl,(aA.calls (wD he k oO) Tryz.call134 wr rd [_,_] htr (hrd _ _ hJ) ?_).mono ?_⟩
   ·exact .cons (.s e) (.cons (.i _ _) .nil)
   rintro x w2 ⟨v,rfl,hbl,hpr⟩;cases hpr;have hJ2:=hb _ _ _ hJ hbl;obtain⟨fn,tmps,assign,body,hy,hR⟩:=hY [.b ((num e).testBit k)] (ET (num e) k) [.bool ((num e).testBit k)] w2 hJ2 (.cons (.b _) .nil)
   gi_wp2
   refine⟨rfl,hR.mono ?_⟩;rintro x W3 (⟨rfl,hJ3⟩|⟨rfl,hJx⟩)
   ·have hw3:IntKind.i64.wrap ((k:Int)-1)=(k:Int)-1:=IntWalk.i64_in _ oO
    gi_wp2
    go_roundw
    case rel=>exact⟨k,rfl,by omega,hJ3⟩
    case measure=>simp
   ·gi_wp2
    refine bodyPost_ret (results_none rfl _ _ _) rfl ?_;exact⟨⟨_,rfl⟩, .inr hJx⟩
end Go.Proofs.YtfdjchnefpefbaaGreatDoor
namespace Go.Proofs.YtfdjchnefpefbaaGreatDoor
open Go Go.Dom
set_option maxRecDepth 100000
set_option maxHeartbeats 4000000
def rf (l:List Bytes) (m:Bytes):Int:=if l.all aa&&aa m then(if m=[]then 11 else 0)else 3
theorem S7 (nm:Nat) (a m:Bytes):iB Tryz.prog 239 nm [] [.fs [.s a], .fs [.s m]] (.v (E (rf [a] m))) []:=by
 refine iB.w mixed Tryz.call239 Tryz.func239 rfl (je.1 _ _ _ (by cbv)) (je.2 _ _ (by cbv)) (obs:=[]) (args:=[.fs [.s a], .fs [.s m]]) (fs:=[]) (j:=none) (nw:=none) (v:= .v (E (rf [a] m))) (ns:=[]) (obsA:=[]) rfl ?_ (by simp) (by simp) rfl rfl (by simp[aQ,AV.aF]) (by simp[AV.aF]) (by simp[eK,outs])
 have va:=aJ a;have vm:=aJ m;simp only[go_sem,seval];repeat' first|simp only[go_sem,seval,true_or,or_true,false_or,or_false,ae,ga,dS,fL,fh,fj,dT,nu,oe,fB,fQ,cJ,aB,AV.aF,AV.aF.renL,ax,fw,cA]|refine cP va ?_|refine cP vm ?_|(refine ah ?_)|refine sB ?_|apply xX<;>intro hc|refine⟨oD,?_⟩|exact oD|fail
 all_goals simp_all[rf]
theorem AG (nm:Nat) (a b m:Bytes):iB Tryz.prog 239 nm [] [.fs [.s a, .s b], .fs [.s m]] (.v (E (rf [a,b] m))) []:=by
 refine iB.w mixed Tryz.call239 Tryz.func239 rfl (je.1 _ _ _ (by cbv)) (je.2 _ _ (by cbv)) (obs:=[]) (args:=[.fs [.s a, .s b], .fs [.s m]]) (fs:=[]) (j:=none) (nw:=none) (v:= .v (E (rf [a,b] m))) (ns:=[]) (obsA:=[]) rfl ?_ (by simp) (by simp) rfl rfl (by simp[aQ,AV.aF]) (by simp[AV.aF]) (by simp[eK,outs])
 have va:=aJ a;have vb:=aJ b;have vm:=aJ m;simp only[go_sem,seval];repeat' first|simp only[go_sem,seval,true_or,or_true,false_or,or_false,ae,ga,dS,fL,fh,fj,dT,nu,oe,fB,fQ,cJ,aB,AV.aF,AV.aF.renL,ax,fw,cA]|refine cP va ?_|refine cP vb ?_|refine cP vm ?_|(refine ah ?_)|refine sB ?_|apply xX<;>intro hc|refine⟨oD,?_⟩|exact oD|fail
 all_goals simp_all[rf]
theorem Q9 {a m:Nat} (ha:a<18446744073709551616) (hm:m<18446744073709551616) (h0:0<m):rf [aO a] (aO m)=0:=by
 have:aO m≠[]:=fun h=>by rw[fW]at h;omega
 simp[rf,vN ha,vN hm,this]
theorem wX {a m:Nat} {e:Bytes} (ha:a<18446744073709551616) (he:aa e=true) (hm:m<18446744073709551616) (h0:0<m):rf [aO a,e] (aO m)=0:=by
 have:aO m≠[]:=fun h=>by rw[fW]at h;omega
 simp[rf,vN ha,he,vN hm,this]
theorem ED {a:Nat} (h:a<18446744073709551616):aA Tryz.prog 262 [N a] (.tup [.i .u64 a, .b true]):=by
 have:=mS (aO a);rw[vN h,decide_eq_true (lN h),aG]at this;exact this
theorem FV {a b m:Nat} (ha:a<18446744073709551616) (hb:b<18446744073709551616) (hm:m<18446744073709551616) (h0:0<m):aA Tryz.prog 243 [N a,N b,N m] (N (a*b%m)):=by
 have la:=lN ha;have lb:=lN hb;have lm:=lN hm;have h1:a%m<18446744073709551616:=ec (sy _ _) ha;have h2:b%m<18446744073709551616:=ec (sy _ _) hb;have hq:=qS (a%m) (b%m) h1 h2;have h3:a%m*(b%m)/18446744073709551616<18446744073709551616:=(gK oC).2 (fR h1 h2);have hr:=JX (a%m*(b%m)/18446744073709551616) (a%m*(b%m)%18446744073709551616) m h0 h3 (aD _ oC) hm;have e:a%m*(b%m)/18446744073709551616*18446744073709551616+a%m*(b%m)%18446744073709551616=a%m*(b%m):=by omega
 rw[e,<-bM]at hr;have ho:=kf (a*b%m) (ix (aD _ h0) hm);have sa:=ED ha;have sb:=ED hb;have sm:=ED hm;clear h3 e h1 h2;refine eW Tryz.call243 Tryz.func243 ?_;exact z6 @sa @sb @sm @hq @hr @ho
theorem kz {a m:Nat} (ha:a<18446744073709551616) (hm:m<18446744073709551616) (h0:0<m):aA Tryz.prog 241 [N a,N m] (N (a%m)):=by
 refine eW Tryz.call241 Tryz.func241 ?_;exact z1 (qP ha hm h0)
theorem oJ {a b m:Nat} (ha:a<18446744073709551616) (hb:b<18446744073709551616) (hm:m<18446744073709551616) (h0:0<m):aA Tryz.prog 133 [N a,N b,N m] (.tup [N (a*b%m),E 0]):=by
 have hc:=fun nm=>AG nm (aO a) (aO b) (aO m)
 rw[wX ha (vN hb) hm h0]at hc;refine eW Tryz.call133 Tryz.func133 ?_;repeat' first|simp only[go_sem,seval]|(refine bC (hc _) (by simp) ?_)|refine cP (FV ha hb hm h0) ?_|refine sB ?_|apply xX<;>intro hc|refine⟨oD,?_⟩|exact oD|fail
theorem Il (e:Bytes):aA Tryz.prog 445 [.s e] (.fc 476 [] [.pt (.agg [.s e]) 0]):=by
 refine eW Tryz.call445 Tryz.func445 ?_;exact z0
theorem C5 (n:Nat): ∀k,∀y∈ET n k,y.length=1
 |0,y,h=>by cases h
 |k+1,y,h=>by
  rcases bL.1 h with rfl|h
  ·rfl
  ·exact C5 n k y h
theorem ey:(.s [1]:PV)=N 1:=rfl
theorem RK {a z m:Nat}:a^z%m*(a^z%m)%m=a^(2*z)%m:=by rw[<-bM,<-ct,pB]
theorem UN {a z m:Nat}:a^z%m*(a^z%m)%m*(a%m)%m=a^(2*z+1)%m:=by rw[RK,<-bM,<-Nat.pow_succ]
theorem Vt {a m:Nat} {e:Bytes} (ha:a<18446744073709551616) (he:aa e=true) (hm:m<18446744073709551616) (h0:0<m):aA Tryz.prog 376 [N a, .s e,N m] (.tup [N (a^num e%m),E 0]):=by
 have hc:=fun nm=>AG nm (aO a) e (aO m)
 rw[wX ha he hm h0]at hc;have h1:=kz (a:=1) oC hm h0;refine eW Tryz.call376 Tryz.func376 ?_;simp only[go_sem,seval,ey];repeat' first|simp only[go_sem,seval,ey]|(refine bC (hc _) (by simp) ?_)|refine cP (kz ha hm h0) ?_|refine cP h1 ?_|refine cP (Il e) ?_|(refine JP (Ik e he) rfl (C5 _ _) ?_)|refine sB ?_|apply xX<;>intro hc|refine⟨oD,?_⟩|exact oD|fail
 obtain⟨n,hn⟩: ∃n,n=num e:=⟨_,rfl⟩;rw[<-hn];have hbl:n/2^b9 n=0:=by
  refine gI ?_;unfold b9;split
  ·subst_vars;rename_i h;rw[h];decide
  ·rename_i h;exact sG
 refine UG (α:=Nat) (fun k=>⟨[(3, .p 1000 0 0),(5, .p 1001 0 0),(9, .p 1019 0 0)],[(1000,⟨0,[.v (N (a%m))],false,none⟩),(1001,⟨0,[.v (N m)],false,none⟩),(1019,⟨0,[.v (N (a^(n/2^k)%m))],false,some 22⟩)],_⟩) (fun ys k=>ys=ET n k) (b9 n) (fun _=>an _) rfl ?_ ?_ ?_
 ·(refine AS.Le.of (by first|decide|omega) ?_ ?_<;>simp[dM,dL,aK,aj,AV.bd,AV.bd.bdL,u8,ai,ak,ar])
  rw[hbl,Nat.pow_zero]
 ·intro k hk
  cases k with
  |succ k=>cases hk
  |zero=>
   refine wC ?_;rw[iS]
 ·intro y ys k hk R hR
  cases k with
  |zero=>cases hk
  |succ k=>
   simp only[ET,List.cons.injEq]at hk;obtain⟨rfl,rfl⟩:=hk;obtain⟨x,hx⟩: ∃x,x=a^(n/2^(k+1))%m:=⟨_,rfl⟩;have hxm:x<m:=by rw[hx];exact aD _ h0
   have t1:=FV (a:=x) (b:=x) oO oO hm h0;have hxx:x*x%m<m:=aD _ h0;have ham:a%m<m:=aD _ h0;have t2:=FV (a:=x*x%m) (b:=a%m) oO oO hm h0;have hbit:=j6 (x:=n) (i:=k);have hdd:n/2^(k+1)=n/2^k/2:=by rw[Nat.pow_succ,eg]
   rw[<-hx,hbit];repeat' first|simp only[go_sem,seval]|refine cP t1 ?_|refine cP t2 ?_|refine sB ?_|apply xX<;>intro hc|refine⟨oD,?_⟩|exact oD|fail
   ·have hb2:n/2^k=2*(n/2^(k+1))+1:=by omega
    refine hR k rfl _ ?_;rw[hb2,hx,UN];exact lE
   ·have hb2:n/2^k=2*(n/2^(k+1)):=by omega
    refine hR k rfl _ ?_;rw[hb2,hx,RK];exact lE
theorem Mh (n:Nat):(aO n==([1]:Bytes))=decide (n=1):=wR n 1
end Go.Proofs.YtfdjchnefpefbaaGreatDoor
namespace Go.Proofs.YtfdjchnefpefbaaGreatDoor
open Go Go.Dom Go.Num
set_option maxRecDepth 100000
set_option maxHeartbeats 4000000

abbrev G (m o:Bytes):PV:= .agg [.s m, .s o]
theorem eV {a:Bytes} (h:aa a=true):N (num a)= .s a:=congrArg PV.s (fF h)
def ie (m o:Bytes):Bool:=aa m&&o==[]&&(num m).testBit 0&&decide (8<num m)
theorem Zl:aA Tryz.prog 70 [.i .u64 8] (.s [8]):=kf 8 oC
theorem qT:aA Tryz.prog 70 [.i .u64 1] (.s [1]):=kf 1 oC
theorem Vv:aA Tryz.prog 70 [.i .u64 2] (.s [2]):=kf 2 oC
theorem Ps (m o:Bytes):aA Tryz.prog 377 [G m o] (.b (ie m o)):=by
 have hv:=aJ m
 by_cases h:aa m=true
 ·have hb:=wD h 0 oC;have hcm:=kX m [8];rw[h]at hv;rw[h,show aa [8]=true from rfl,show num [8]=8 from rfl]at hcm
  have he:aU (num m) 8>0↔8<num m:=by unfold aU;split<;>(try split)<;>omega
  refine eW Tryz.call377 Tryz.func377 ?_;repeat' first|simp only[go_sem,seval]|refine cP hv ?_|refine cP hb ?_|refine cP Zl ?_|refine cP hcm ?_|refine sB ?_|apply xX<;>intro hc|refine⟨oD,?_⟩|exact oD|fail
  all_goals simp_all[ie]
 ·have h:aa m=false:=by simpa using h
  rw[h]at hv;have e:ie m o=false:=by simp[ie,h]
  rw[e];refine eW Tryz.call377 Tryz.func377 ?_;exact z1 @hv
theorem Qu:aA Tryz.prog 379 [] (N 1):=by
 refine eW Tryz.call379 Tryz.func379 ?_;exact z1 @qT
def yp (m o x:Bytes):Bool:=ie m o&&aa x&& !(x==[])&&decide (num x<num m)&&decide (Nat.gcd (num x) (num m)=1)
theorem wY (a b:Nat):(aU a b>=0)=(b<=a):=by
 unfold aU;rw[eq_iff_iff];split<;>(try split)<;>omega
theorem Qm {m:Bytes} (lm:m.length<=8) (o x:Bytes):aA Tryz.prog 268 [G m o, .s x] (.b (yp m o x)):=by
 have hg:=Ps m o;have hv:=aJ x
 by_cases h:ie m o=true/\aa x=true/\x≠[]/\num x<num m
 ·obtain⟨h1,h2,h3,h4⟩:=h;have hm:aa m=true:=by simp[ie]at h1;exact h1.1.1.1
  have hcm:=kX x m;rw[h2,hm]at hcm;have hnm:=dY lm;have hgc:=XX (a:=num x) (b:=num m) oO hnm;rw[eV h2,eV hm]at hgc;rw[h1]at hg;rw[h2]at hv;have hx:(x==([]:Bytes))=false:=by simpa using h3
  have hlt: ¬aU (num x) (num m)>=0:=by rw[wY];omega
  have e:yp m o x=decide (Nat.gcd (num x) (num m)=1):=by simp[yp,h1,h2,h4];intro;exact h3
  rw[e];refine eW Tryz.call268 Tryz.func268 ?_;repeat' first|simp only[go_sem,seval,hx,wR]|refine cP hg ?_|refine cP hv ?_|refine cP hcm ?_|refine cP hgc ?_|refine cP Qu ?_|refine sB ?_|apply xX<;>intro hc|refine⟨oD,?_⟩|exact oD|fail
  all_goals skip
 ·have e:yp m o x=false:=by
   rw[eZ];intro g;simp[yp]at g;exact h ⟨g.1.1.1.1,g.1.1.1.2,g.1.1.2,g.1.2⟩
  have hcm:=kX x m;rw[e]
  by_cases h1:ie m o=true
  ·have hm:aa m=true:=by simp[ie]at h1;exact h1.1.1.1
   rw[h1]at hg
   by_cases h2:aa x=true
   ·rw[h2]at hv;rw[h2,hm]at hcm
    by_cases h3:x=[]
    ·subst h3;refine eW Tryz.call268 Tryz.func268 ?_;repeat' first|simp only[go_sem,seval,nn]|refine cP hg ?_|refine cP hv ?_|refine sB ?_|apply xX<;>intro hc|refine⟨oD,?_⟩|exact oD|fail
    ·have hx:(x==([]:Bytes))=false:=by simpa using h3
     have hge:aU (num x) (num m)>=0:=by rw[wY];exact Nat.le_of_not_lt fun g=>h ⟨h1,h2,h3,g⟩
     refine eW Tryz.call268 Tryz.func268 ?_;repeat' first|simp only[go_sem,seval,hx]|refine cP hg ?_|refine cP hv ?_|refine cP hcm ?_|refine sB ?_|apply xX<;>intro hc|refine⟨oD,?_⟩|exact oD|fail
     all_goals skip
   ·have h2:aa x=false:=by simpa using h2
    rw[h2]at hv;refine eW Tryz.call268 Tryz.func268 ?_;exact z2 @hg @hv
  ·have h1:ie m o=false:=by simpa using h1
   rw[h1]at hg;refine eW Tryz.call268 Tryz.func268 ?_;exact z1 @hg
structure ZW (m o p q:Bytes):Prop where
 vm:aa m=true
 vp:aa p=true
 vq:aa q=true
 lp:p.length<=8
 lq:q.length<=8
 o:o=[]
 mul:num m=num p*num q
 odd:num m%2=1
 sp:LF (num p)=true
 sq:LF (num q)=true
 ne:num p≠num q
theorem vk (n:Bool) (a:Bytes):aA Tryz.prog 81 [.b n, .s a] (.agg [.b (n&& !(a==[])), .s a]):=by
 refine eW Tryz.call81 Tryz.func81 ?_;exact XF
theorem fP (n:Bool) (a:Bytes):aA Tryz.prog 164 [.agg [.b n, .s a]] (.b (aa a&& !(n&&a==[]))):=by
 have hv:=aJ a;refine eW Tryz.call164 Tryz.func164 ?_;exact XG @hv
theorem pc {a:Bytes} (h:aa a=true):aA Tryz.prog 35 [.s a] (.agg [.b false, .s a]):=by
 have hv:=aJ a;rw[h]at hv;refine eW Tryz.call35 Tryz.func35 ?_;repeat' first|simp only[go_sem,seval]|refine cP hv ?_|refine cP (vk _ _) ?_|refine sB ?_|apply xX<;>intro hc|refine⟨oD,?_⟩|exact oD|fail
 all_goals simp_all
theorem Iz (m o:Bytes):aA Tryz.prog 375 [G m o] (.b (aa m&&aa o)):=by
 have v1:=aJ m;have v2:=aJ o;refine eW Tryz.call375 Tryz.func375 ?_;exact U1 @v1 @v2
theorem X7 {a b:Nat} (ha:a<18446744073709551616) (hb:b<18446744073709551616):aA Tryz.prog 75 [N a,N b] (.tup [if b<=a then N (a-b)else .s [],E (if b<=a then 0 else 2)]):=by
 have:=JY (aO a) (aO b);simp only[ui,vN ha,vN hb,db,if_true,aG]at this
 by_cases h:b<=a
 ·simp only[h,if_true]at this⊢;exact this
 ·simp only[h,if_false]at this⊢;exact this
def Zx (m o:Bytes):Int:=if !(aa m&&aa o)then 3 else if 8<m.length then 5 else if !du (num m)then 12 else if 8<o.length then 13 else if !du (num o)then 12 else if(num m-1)%num o=0 then 0 else 13
def lu (m o x:Bytes):Bool:=aa m&&aa o&&aa x&& !(o==[])&& !(x==[])&&decide (num x<num m)&&decide (num x^num o%num m=1%num m)
theorem Mm {m:Bytes} (lm:m.length<=8) (o x:Bytes):aA Tryz.prog 267 [G m o, .s x] (.b (lu m o x)):=by
 have hf:=Iz m o;have vx:=aJ x;have hcm:=kX x m
 by_cases h:aa m=true/\aa o=true/\aa x=true/\o≠[]/\x≠[]/\num x<num m
 ·obtain⟨v1,v2,v3,h4,h5,h6⟩:=h;have e4:(o==([]:Bytes))=false:=by simpa using h4
  have e5:(x==([]:Bytes))=false:=by simpa using h5
  have hn:=dY lm;have hE:=Vt (a:=num x) (m:=num m) (e:=o) oO v2 hn oO;have hE0:=Vt (a:=num x) (m:=num m) (e:=[]) oO rfl hn oO;rw[eV v3,eV v1]at hE hE0;rw[show num ([]:Bytes)=0 from rfl,Nat.pow_zero]at hE0
  rw[v1,v2]at hf;rw[v3]at vx;rw[v3,v1]at hcm;have hlt: ¬aU (num x) (num m)>=0:=by rw[wY];omega
  have e:lu m o x=decide (num x^num o%num m=1%num m):=by simp[lu,v1,v2,v3,e4,e5,h6]
  rw[e];generalize num x^num o%num m=z1 at*;generalize 1%num m=z2 at*;refine eW Tryz.call267 Tryz.func267 ?_;repeat' first|simp only[go_sem,seval,e4,e5,wR]|refine cP hf ?_|refine cP vx ?_|refine cP hcm ?_|refine cP hE ?_|refine cP hE0 ?_|refine sB ?_|apply xX<;>intro hc|refine⟨oD,?_⟩|exact oD|fail
  all_goals simp_all
 ·have e:lu m o x=false:=by
   rw[eZ];intro g;simp[lu]at g;exact h ⟨g.1.1.1.1.1.1,g.1.1.1.1.1.2,g.1.1.1.1.2,g.1.1.1.2,g.1.1.2,g.1.2⟩
  rw[e]
  by_cases v1:aa m=true<;>by_cases v2:aa o=true<;>by_cases v3:aa x=true
  ·rw[v1,v2]at hf;rw[v3]at vx;rw[v3,v1]at hcm
   by_cases h4:o=[]
   ·subst h4;refine eW Tryz.call267 Tryz.func267 ?_;repeat' first|simp only[go_sem,seval,nn]|refine cP hf ?_|refine cP vx ?_|refine sB ?_|apply xX<;>intro hc|refine⟨oD,?_⟩|exact oD|fail
   ·have e4:(o==([]:Bytes))=false:=by simpa using h4
    by_cases h5:x=[]
    ·subst h5;refine eW Tryz.call267 Tryz.func267 ?_;repeat' first|simp only[go_sem,seval,nn,e4]|refine cP hf ?_|refine cP vx ?_|refine sB ?_|apply xX<;>intro hc|refine⟨oD,?_⟩|exact oD|fail
    ·have e5:(x==([]:Bytes))=false:=by simpa using h5
     have hge:aU (num x) (num m)>=0:=by rw[wY];exact Nat.le_of_not_lt fun g=>h ⟨v1,v2,v3,h4,h5,g⟩
     refine eW Tryz.call267 Tryz.func267 ?_;exact JJ (aN @e4 @e5) @hf @vx @hcm
  all_goals simp only[Bool.not_eq_true]at v1 v2 v3
  all_goals simp only[v1,v2,pN,wz,db,cf,dH]at hf
  all_goals simp only[v3]at vx
  ·refine eW Tryz.call267 Tryz.func267 ?_;exact z2 @hf @vx
  ·refine eW Tryz.call267 Tryz.func267 ?_;exact z2 @hf @vx
  ·refine eW Tryz.call267 Tryz.func267 ?_;exact z2 @hf @vx
  ·refine eW Tryz.call267 Tryz.func267 ?_;exact z2 @hf @vx
  ·refine eW Tryz.call267 Tryz.func267 ?_;exact z2 @hf @vx
  ·refine eW Tryz.call267 Tryz.func267 ?_;exact z2 @hf @vx
  ·refine eW Tryz.call267 Tryz.func267 ?_;exact z2 @hf @vx
end Go.Proofs.YtfdjchnefpefbaaGreatDoor
namespace Go.Dom
def Vd (q:Int) (p:List Int):List Int:=p.map (·%q)
theorem LU (q x:Int): ∀p:List Int,Cg q (gR (Vd q p) x) (gR p x)
 |[]=>Cg.iI _
 |a::p=>by
  have:=LU q x p;simp only[Vd,aS,gR]at this⊢;exact(Cg.emod q a).add ((Cg.iI x).mul this)
theorem PK (q:Int) (p:List Int):(Vd q p).length=p.length:=aE ..
def mL (q:Int) (p:List Int) (a:Int):List Int:=Vd q (DE (0::p) (p.map (-a* ·)))
theorem TG (q x a:Int) (p:List Int):Cg q (gR (mL q p a) x) ((x-a)*gR p x):=by
 refine(LU _ _ _).trans (Cg.of_eq ?_);rw[tT,tO,gR];grind
theorem pq (q a:Int) (p:List Int):(mL q p a).length=p.length+1:=by
 rw[mL,PK,rO,aE,List.length_cons];omega
def zW (q:Int) (l:List Int):List Int:=l.foldl (mL q) [1]
theorem LY (q x:Int): ∀(l:List Int) (p:List Int),Cg q (gR (l.foldl (mL q) p) x) (gR p x*Bv l x)
 |[],p=>Cg.of_eq (by simp[Bv])
 |a::l,p=>by
  rw[List.foldl_cons,oQ];exact(LY q x l _).trans (((TG q x a p).mul (Cg.iI _)).trans (Cg.of_eq (by grind)))
theorem TF (q x:Int) (l:List Int):Cg q (gR (zW q l) x) (Bv l x):=(LY q x l [1]).trans (Cg.of_eq (by simp[gR]))
theorem Ha (q:Int): ∀(l:List Int) (p:List Int),(l.foldl (mL q) p).length=p.length+l.length
 |[],p=>rfl
 |a::l,p=>by rw[List.foldl_cons,Ha q l,pq,List.length_cons];omega
theorem vu (q:Int) (l:List Int):(zW q l).length=l.length+1:=by rw[zW,Ha];simp;omega
def yu (q x:Int) (l:List Int):Int:=l.foldl (fun s a=>s*((x-a)%q)%q) 1
theorem Na (q x:Int): ∀(l:List Int) (s:Int),Cg q (l.foldl (fun s a=>s*((x-a)%q)%q) s) (s*Bv l x)
 |[],s=>Cg.of_eq (by simp[Bv])
 |a::l,s=>by
  rw[List.foldl_cons,oQ];exact(Na q x l _).trans ((((Cg.emod q _).trans ((Cg.iI s).mul (Cg.emod q _))).mul (Cg.iI _)).trans (Cg.of_eq (by grind)))
theorem Nb (q x:Int) (l:List Int):Cg q (yu q x l) (Bv l x):=(Na q x l 1).trans (Cg.of_eq (by grind))
theorem rK: ∀(p r:List Int) (j:Nat),(DE p r).getD j 0=p.getD j 0+r.getD j 0
 |[],r,j=>by simp[DE]
 |a::p,[],j=>by simp[DE]
 |a::p,b::r,0=>rfl
 |a::p,b::r,j+1=>by
  simp only[DE,cA];exact rK p r j
theorem m9 (f:Int->Int) (h:f 0=0): ∀(p:List Int) (j:Nat),(p.map f).getD j 0=f (p.getD j 0)
 |[],j=>by simp[h]
 |a::p,0=>rfl
 |a::p,j+1=>by simp only[aS,cA];exact m9 f h p j
theorem xO (q:Int) (p:List Int) (j:Nat):(Vd q p).getD j 0=p.getD j 0%q:=m9 _ (Int.zero_emod q) p j
theorem L2 (q a:Int) (p:List Int):(mL q p a).getD 0 0=(-a*p.getD 0 0)%q:=by
 rw[mL,xO,rK,m9 (-a* ·) (by grind),fw,wc]
theorem Du (q a:Int) (p:List Int) (j:Nat):(mL q p a).getD (j+1) 0=(p.getD j 0+ -a*p.getD (j+1) 0)%q:=by
 rw[mL,xO,rK,m9 (-a* ·) (by grind),cA]
theorem rv {α:Type} (d:α): ∀(l:List α) (j:Nat),l.length<=j->l.getD j d=d
 |[],j,_=>rfl
 |a::l,0,h=>by simp at h
 |a::l,j+1,h=>by rw[cA];exact rv d l j (by simpa using h)
def yZ (q:Int) (P:Nat->List Int) (f:Nat->Int) (j:Nat):Nat->Int
 |0=>0
 |i+1=>(yZ q P f j i+(P i).getD j 0*f i%q)%q
theorem J2 (q:Int) (P:Nat->List Int) (f:Nat->Int) (j:Nat): ∀n,Cg q (yZ q P f j n) ((LR P f n).getD j 0)
 |0=>Cg.of_eq (by simp[yZ,LR])
 |n+1=>by
  rw[yZ,LR,rK,m9 (f n* ·) (by grind)]
  exact(Cg.emod q _).trans ((J2 q P f j n).add ((Cg.emod q _).trans (Cg.of_eq (by grind))))
def pT (q:Int) (p:List Int) (x:Int):Int:=p.foldr (fun a y=>(y*x%q+a)%q) 0
theorem Ls (q x:Int): ∀p:List Int,Cg q (pT q p x) (gR p x)
 |[]=>Cg.iI _
 |a::p=>by
  have:=Ls q x p;simp only[pT,List.foldr_cons,gR]at this⊢;exact(Cg.emod q _).trans ((((Cg.emod q _).trans (this.mul (Cg.iI x))).add (Cg.iI a)).trans (Cg.of_eq (by grind)))
theorem Cg.dvd {q a b:Int} (h:Cg q a b):q∣a-b:=h
variable {m:Nat}
theorem vC (hm:0<m): ∀(l r:List (Nat×Int)),yS m (l++r)=yS m l*yS m r%m
 |[],r=>by rw[List.nil_append,yS,gL,ia,P3]
 |p::l,r=>by
  rw[List.cons_append,yS,yS,vC hm l r,jK,gL,bQ]
theorem qA (hm:0<m) (x:Nat) (z:Int):yS m [(x,z)]=dU m x z:=by
 rw[yS,yS,jK,dG,oN]
theorem DF {g:Nat} (hg:dc m g) (hm:0<m) (e w:Nat->Int): ∀n,yS m ((List.range n).map fun k=>(dU m g (e k),w k))=dU m g (QH (fun k=>e k*w k) n)
 |0=>(tU m g).symm
 |n+1=>by
  rw[nR,dD,vC hm,DF hg hm e w n,aS,bH,qA hm,nf hg hm,x9 hg hm];rfl
variable {q:Nat} {l:List Int} {w:Nat->Int}
theorem KJ {g:Nat} (hg:dc m g) (hm:0<m) (ho:g^q%m=1%m) (hp:NU q l) (hw: ∀i,i<l.length->Cg q (w i*Bv (l.eraseIdx i) (l.getD i 0)) 1) {c:List Int} (hc:c.length<=l.length) {x:Int} {v:Nat->Int} (hv: ∀i,i<l.length->Cg q (v i) (Vc l w i x)) {e:Nat->Int} (he: ∀i,i<l.length->Cg q (e i) (gR c (l.getD i 0))):
  yS m ((List.range l.length).map fun k=>(dU m g (e k),v k))=dU m g (gR c x):=by
 rw[DF hg hm];exact ya hg hm ho (((FO fun i hi=>(he i hi).mul (hv i hi)).trans (YK hp hw hc x)).dvd)
theorem Ug {g:Nat} (hg:dc m g) (hm:0<m) (ho:g^q%m=1%m) {z:Int} (hz:Iv q z) (h:dU m g z=1%m):dU m g 1=1%m:=by
 obtain⟨y,hy⟩:=hz;rw[<-ya hg hm ho hy.dvd,<-nf hg hm,h];have:=nf (Eo hm) hm 0 y
 rwa[Int.zero_mul,tU]at this
theorem yd {u:Nat} (hm:0<m) {b:Nat->Nat} (hb: ∀k,dc m (b k)) (hu:dc m u) (hq:u^q%m=1%m) (hu1:dU m u 1≠1%m) {v:Nat->Int} {i:Nat} (hi:Iv q (v i)): ∀n,yS m ((List.range n).map fun k=>(if k=i then b k*u%m else b k,v k))=yS m ((List.range n).map fun k=>(b k,v k))*(if i<n then dU m u (v i)else 1%m)%m
 |0=>by simp only[List.range_zero,bH,yS,mD,if_false];rw[<-bM,ia]
 |n+1=>by
  rw[nR,dD,dD,vC hm,vC hm,yd hm hb hu hq hu1 hi n,aS,bH,aS,bH,qA hm,qA hm]
  by_cases h1:n=i
  ·subst h1;rw[if_pos rfl,if_neg (kN _),if_pos (sH _),Mn (hb _) hu hm];simp only[jK,gL,dG,bQ]
  ·rw[if_neg h1]
   by_cases h2:i<n
   ·rw[if_pos h2,if_pos (by omega)]
    simp only[jK,gL];rw[vW]
   ·rw[if_neg h2,if_neg (by omega)]
    simp only[jK,gL,dG,dq]
theorem TE {a u:Nat} (hm:0<m) (ha:dc m a) (ham:a%m=a) (h:a*u%m=a):u%m=1%m:=by
 have hi:=ha.inv.2;have h1:ew a m*(a*u%m)%m=ew a m*a%m:=by rw[h]
 rw[jK,<-bQ,bc (ew a m) a,hi,bM,hi,<-bM,ia]at h1;exact h1
end Go.Dom
namespace Go.Dom
theorem ve {q:Int} (x:Int): ∀(p r:List Int),(∀j,Cg q (p.getD j 0) (r.getD j 0))->Cg q (gR p x) (gR r x)
 |[],[],_=>Cg.iI _
 |a::p,[],g=>by
  have h0:=g 0;have:=ve (q:=q) x p [] (fun j=>by have:=g (j+1);simpa using this)
  simp only[gR]at this⊢;exact(h0.add ((Cg.iI x).mul this)).trans (Cg.of_eq (by simp))
 |[],b::r,g=>by
  have h0:=g 0;have:=ve (q:=q) x [] r (fun j=>by have:=g (j+1);simpa using this)
  simp only[gR]at this⊢;exact Cg.trans (Cg.of_eq (by simp)) (h0.add ((Cg.iI x).mul this))
 |a::p,b::r,g=>by
  have h0:=g 0;have:=ve (q:=q) x p r (fun j=>by have:=g (j+1);simpa using this)
  simp only[gR];exact h0.add ((Cg.iI x).mul this)
def qJ (q:Int) (l:List Int) (f:Nat->Int):List Int:=(List.range l.length).map fun j=>yZ q (fun k=>zW q (l.eraseIdx k)) f j l.length
theorem Jy (q:Int) (l:List Int) (f:Nat->Int) {j:Nat} (h:j<l.length):(qJ q l f).getD j 0=yZ q (fun k=>zW q (l.eraseIdx k)) f j l.length:=by
 rw[qJ,aR,dt,jS h];rfl
theorem Nu (q:Int) (l:List Int) (f:Nat->Int) (x:Int):Cg q (pT q (qJ q l f) x) (QH (fun k=>f k*Bv (l.eraseIdx k) x) l.length):=by
 have hlen:(LR (fun k=>zW q (l.eraseIdx k)) f l.length).length<=l.length:=Bk fun k hk=>by
  rw[vu,Ch,if_pos hk];omega
 refine(Ls q x _).trans ((ve x _ (LR (fun k=>zW q (l.eraseIdx k)) f l.length) fun j=> ?_).trans ?_)
 ·by_cases hj:j<l.length
  ·rw[Jy q l f hj];exact J2 _ _ _ _ _
  ·rw[rv 0 (qJ q l f) j (by rw[qJ,aE,iN];omega),rv 0 _ j (by omega)]
   exact Cg.iI _
 ·rw[Bj];exact FO fun i _=>(Cg.iI _).mul (TF q x _)
theorem Jz {q:Int} {l:List Int} {w f:Nat->Int} {i:Nat} (hi:i<l.length) (h1:Cg q (f i) (w i)) (h0: ∀k,k<l.length->k≠i->Cg q (f k) 0) (x:Int):Cg q (pT q (qJ q l f) x) (Vc l w i x):=by
 refine(Nu q l f x).trans ((BJ hi fun k hk hn=> ?_).trans (h1.mul (Cg.iI _)))
 exact((h0 k hk hn).mul (Cg.iI _)).trans (Cg.of_eq (by grind))
theorem tD {q:Int} (hq:0<q) (x:Int): ∀p:List Int,0<=pT q p x/\pT q p x<q
 |[]=>⟨mC _,hq⟩
 |a::p=>⟨fS _ (by omega),gZ _ hq⟩
theorem tc {q:Int} (hq:0<q) (P:Nat->List Int) (f:Nat->Int) (j:Nat): ∀n,0<=yZ q P f j n/\yZ q P f j n<q
 |0=>⟨mC _,hq⟩
 |n+1=>⟨fS _ (by omega),gZ _ hq⟩
theorem Iv.TO {q a b:Nat} (h:a*b%q=1%q):Iv q a:=by
 refine⟨b,?_⟩;have h1:Cg q (((a*b%q:Nat):Int)) ((a*b:Nat):Int):=by rw[Int.natCast_emod];exact Cg.emod _ _
 have h2:Cg q (((1%q:Nat):Int)) ((1:Nat):Int):=by rw[Int.natCast_emod];exact Cg.emod _ _
 rw[<-Int.natCast_mul];exact h1.symm.trans ((Cg.of_eq (by rw[h])).trans h2)
end Go.Dom
namespace Go.Dom
open Go.Num
theorem nJ {q:Nat} (h:du q=true):2<=q/\(q∈bI\/ ∀p∈bI,¬q%p=0):=by
 unfold du at h
 split at h
 ·exact absurd h (by decide)
 ·rename_i h2;refine⟨by omega,?_⟩
  split at h
  ·rename_i p hf;have:=List.mem_of_find?_eq_some hf;exact .inl (by rw[show q=p by simpa using h];exact this)
  ·rename_i hf;exact .inr fun p hp hz=>by
    have:=List.find?_eq_none.1 hf p hp;simp[hz]at this
theorem Pf {q a:Nat} (h:du q=true) (a0:0<a) (a8:a<=8) (hq:a<q):Nat.gcd a q=1:=by
 obtain⟨h2,h|h⟩:=nJ h
 ·have hd: ∀q∈bI,∀a,a<=8->0<a->a<q->Nat.gcd a q=1:=by decide
  exact hd q h a a8 a0 hq
 ·have e2:=h 2 (by decide)
  have e3:=h 3 (by decide)
  have e5:=h 5 (by decide)
  have e7:=h 7 (by decide)
  rw[kM];obtain⟨r,hr⟩: ∃r,r=q%a:=⟨_,rfl⟩;rw[<-hr];have hd: ∀a:Fin 9,∀r:Fin 9,r.1<a.1->(a.1%2=0/\r.1%2=0)\/(a.1%3=0/\r.1%3=0)\/(a.1%5=0/\r.1%5=0)\/(a.1%7=0/\r.1%7=0)\/Nat.gcd r.1 a.1=1:=by decide
  have hra:r<a:=hr▸aD _ a0;have hm: ∀p,a%p=0->q%p≠0->r%p≠0:=fun p hp hq hz=>by
   rw[hr,ss _ (Nat.dvd_of_mod_eq_zero hp)]at hz;exact hq hz
  rcases hd ⟨a,by omega⟩ ⟨r,by omega⟩ hra with⟨e,f⟩|⟨e,f⟩|⟨e,f⟩|⟨e,f⟩|e
  ·exact absurd f (hm 2 e e2)
  ·exact absurd f (hm 3 e e3)
  ·exact absurd f (hm 5 e e5)
  ·exact absurd f (hm 7 e e7)
  ·exact e
theorem Ld {q a:Nat} (h:du q=true) (a0:0<a) (a8:a<=8) (hq:a<q):dc q a:=gF (by omega) (Pf h a0 a8 hq)
theorem Lc {q a:Nat} (h:du q=true) (a0:0<a) (a8:a<=8) (hq:a<q):Iv q a:=by
 obtain⟨b,-,hb⟩:=Ld h a0 a8 hq;exact Iv.TO hb
theorem GK {q a b:Nat} (h:du q=true) (hn:a≠b) (ha:a<=8) (hb:b<=8) (qa:a<q) (qb:b<q):Iv q ((a:Int)-b):=by
 rcases Nat.lt_or_gt_of_ne hn with g|g
 ·have:=(Lc h (a:=b-a) (by omega) (by omega) (by omega)).neg
  exact this.cg (Cg.of_eq (by omega))
 ·have:=Lc h (a:=a-b) (by omega) (by omega) (by omega)
  exact this.cg (Cg.of_eq (by omega))
theorem AY {q:Nat} (h:du q=true): ∀{l:List Nat},l.Nodup->(∀a∈l,a<=8/\a<q)->NU q (l.map fun a:Nat=>(a:Int))
 |[],_,_=>trivial
 |a::l,hd,hb=>by
  have hd:=pM.1 hd;refine⟨fun x hx=> ?_,AY h hd.2 fun b hb'=>hb b (.tail _ hb')⟩
  obtain⟨b,hb',rfl⟩:=bw.1 hx;have ha:=hb a (.head _);have hbb:=hb b (.tail _ hb');exact GK h (fun e=>hd.1 (e▸hb')) hbb.1 ha.1 hbb.2 ha.2
end Go.Dom
