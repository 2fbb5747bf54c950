/- Part of the proof. -/
import Derived.RangeFuncKeeps
import Derived.RangeFuncLeaves
import Derived.Shelf.Abstract
import Derived.WalkKit
import Derived.OwnWalkIn
import Derived.TacticsInMore
import Derived.LoopNIn
import Derived.LoopIn
import Derived.Test.YthlapgdhjcddkaaGreatDoorUF21
set_option linter.all false
set_option maxHeartbeats 16000000
set_option maxRecDepth 100000
namespace Go.Num
def Pr (n:Nat):Prop:=2<=n/\ ∀d,d∣n->d=1\/d=n
theorem Pr.UN {p a:Nat} (h:Pr p) (ha: ¬p∣a):Nat.Coprime a p:=by
 rcases h.2 _ (EM a p)with e|e
 ·exact e
 ·exact aJ (e▸ED a p) ha
def cJ:List Nat:=[2,3,5,7,11,13,17,19,23,29,31,37]
def G2:Nat->Nat->Nat
 |0,_=>0
 |f+1,n=>if n%2=1 then 0 else G2 f (n/2)+1
def Vg:Nat->Nat->Nat->Bool
 |0,_,_=>false
 |k+1,x,n=>x*x%n==n-1||Vg k (x*x%n) n
def pd (n s d a:Nat):Bool:=(a%n)^d%n==1||(a%n)^d%n==n-1||Vg (s-1) ((a%n)^d%n) n
def ia (n:Nat):Bool:=
 if n<2 then false else
 match cJ.find? fun p=>n%p==0 with
 |some p=>n==p
 |none=>cJ.all fun a=>pd n (G2 64 (n-1)) ((n-1)/2^G2 64 (n-1)) a
def N9 (n:Nat):Bool:=ia n&&ia ((n-1)/2)
end Go.Num
namespace Go.Proofs.Tryz
open Go Go.Dom Go.Num
def UD:List PV:=cJ.map fun p:Nat=> .i .u64 (p:Int)
theorem H5:aH 311 [] (.agg UD):=by
 refine eW call311 func311 ?_;repeat' first|simp only[go_sem,seval]|refine oE ?_|apply xX<;>intro hc
 rfl
theorem AU {a b m:Nat} (ha:a<m) (hb:b<m) (hm:m<(2^64)):aH 314 [.i .u64 a, .i .u64 b, .i .u64 m] (.i .u64 (a*b%m:Nat)):=by
 have h1:=uc a b oO oO;have hp:a*b<m*(2^64):=bM (Nat.mul_lt_mul_of_lt_of_le ha (lH hb) oO) (jR m oO);have h2:a*b/(2^64)<m:=(je oC).2 hp;have h3:=E8 (a*b/(2^64)) (a*b%(2^64)) m h2 (aV _ oC) hm;have e:a*b/(2^64)*(2^64)+a*b%(2^64)=a*b:=oO;rw[e]at h3;refine eW call314 func314 ?_;exact z2 @h1 @h3
theorem JK (b k m:Nat):(b*b%m)^(k/2)%m=b^(2*(k/2))%m:=by rw[<-j8,<-Nat.pow_two,<-kR]
theorem Pk {x b k m:Nat} (h:k%2=1):x*b%m*(b*b%m)^(k/2)%m=x*b^k%m:=by
 rw[db,JK,eQ,<-db,de,<-yY];congr 3;omega
theorem JJ {x b k m:Nat} (h:k%2=0):x*(b*b%m)^(k/2)%m=x*b^k%m:=by
 rw[db,JK,<-db];congr 3;omega
theorem Pq {a e m:Nat} (ha:a<m) (he:e<(2^64)) (hm:m<(2^64)):aH 313 [.i .u64 a, .i .u64 e, .i .u64 m] (.i .u64 (a^e%m:Nat)):=by
 refine eW call313 func313 ?_;refine pO ?_;refine ah (α:=Nat×Nat×Nat) (fun x=>x.2.1) (fun x=>⟨[(0,U x.1),(1,U x.2.1),(2,U m),(7,U x.2.2)],[],_⟩) (fun x=>x.1<m/\x.2.1<(2^64)/\x.2.2<m/\x.2.2*x.1^x.2.1%m=a^e%m) (a,e,1%m) (fun _=>aA _) ⟨ha,he,aV _ oO,by show 1%m*a^e%m= _;rw[db,eQ,<-db,iL]⟩ ?_ ?_
 ·(refine AS.Le.of (by first|decide|omega) ?_ ?_<;>simp[cU,cT,aO,az,AV.bd,AV.bd.bdL,u8,aj,ak,an])
  rfl
 ·rintro⟨b,k,x⟩ ⟨h1,h2,h3,h4⟩ R hR;simp only at h1 h2 h3 h4;have hs:=AU h1 h1 hm;have hx:=AU h3 h1 hm;have hk:k/2<(2^64):=oO;repeat' first|simp only[go_sem,seval,uw,bV hk]|refine cP hs ?_|refine cP hx ?_|refine oE ?_|apply xX<;>intro hc
  ·refine hR (b*b%m,k/2,x*b%m) ⟨aV _ oO,hk,aV _ oO,?_⟩ (by show k/2<k;omega) _ ?_
   ·show x*b%m*(b*b%m)^(k/2)%m= _;rw[Pk oO,h4]
   ·exact lE
  ·refine hR (b*b%m,k/2,x) ⟨aV _ oO,hk,h3,?_⟩ (by show k/2<k;omega) _ ?_
   ·show x*(b*b%m)^(k/2)%m= _;rw[JJ oO,h4]
   ·exact lE
  ·obtain rfl:k=0:=oO;rw[<-h4,Nat.pow_zero,dr,bV h3]
theorem Vm: ∀f x,Lib.ctzFrom f x=G2 f x
 |0,x=>rfl
 |f+1,x=>by simp only[Lib.ctzFrom,G2,Vm f (x/2)];split<;>omega
theorem Zv {i:Nat} (h:i<12):(List.map AV.v UD).getD i .u=U (cJ.getD i 0):=by
 have: ∀i:Fin 12,(List.map AV.v UD).getD i.val .u=U (cJ.getD i.val 0):=by
  intro i;rcases i with⟨i,hi⟩
  have h2:i<cJ.length:=hi;simp[UD,bu,h2]
 exact this ⟨i,h⟩
theorem R5 {i:Nat} (h:i<12):0<cJ.getD i 0/\cJ.getD i 0<38:=by
 have: ∀i:Fin 12,0<cJ.getD i.val 0/\cJ.getD i.val 0<38:=by decide
 exact this ⟨i,h⟩
theorem IW {i:Nat} (h:i<12):cJ.drop i=cJ.getD i 0::cJ.drop (i+1):=by
 have h2:i<cJ.length:=h;rw[kJ h2,bu,bC h2];rfl
theorem Tt {n:Nat} (hn:n<(2^64)):aH 243 [.i .u64 n] (.b (ia n)):=by
 by_cases h2:n<2
 ·have e:ia n=false:=by simp[ia,h2]
  rw[e];refine eW call243 func243 ?_;exact z0
 have hb:=H5;have hL:(List.map AV.v UD).length=12:=rfl;refine eW call243 func243 ?_;refine zl1 @hb ?_;refine ah (α:=Nat) (fun i=>12-i) (fun i=>⟨[(0,U n),(13, .v (.agg UD)),(14,E' i)],[],_⟩) (fun i=>i<=12/\cJ.find? (fun p=>n%p==0)=(cJ.drop i).find? (fun p=>n%p==0)) 0 (fun _=>aA _) ⟨oO,rfl⟩ ?_ ?_
 ·exact lE
 ·rintro i ⟨hi,hf⟩ R hR
  by_cases hlt:i<12
  ·have g1:=Zv hlt;obtain⟨q0,q1⟩:=R5 hlt;rw[IW hlt]at hf;generalize cJ.getD i 0=q at*;repeat' first|simp only[go_sem,seval,g1,hL]|refine oE ?_|apply xX<;>intro hc
   ·have hz:(n%q==0)=true:=by rw[fK];omega
    rw[List.find?_cons,hz]at hf;unfold ia;rw[aa h2,hf];congr 1;rw[cu];simp only[fK];omega
   ·have hz:(n%q==0)=false:=by rw[du];omega
    rw[List.find?_cons,hz]at hf;refine hR (i+1) ⟨oO,hf⟩ oO _ ?_;exact lE
  ·obtain rfl:i=12:=oO;have hf:cJ.find? (fun p=>n%p==0)=none:=hf
   obtain⟨s,hs⟩: ∃s,s=G2 64 (n-1):=⟨_,rfl⟩;obtain⟨d,hd⟩: ∃d,d=(n-1)/2^s:=⟨_,rfl⟩;have hz:=s8 (n-1) oO oO;have hs64:=(Lib.lowest_bit 64 (n-1) oO (by show n-1<(2^64);omega)).2
   have hzs:Lib.ctz 64 (n-1)=s:=by rw[Lib.ctz,aa oO,Vm,hs]
   rw[hzs]at hz hs64;have hdl:d<(2^64):=by rw[hd];exact eR (fx _ _) oO
   have e1: ∀ _:True,((n:Int)-1)=((n-1:Nat):Int):=fun _=>oO
   have e2: ∀ _:True,(if s<=64 then s else 64)=s:=fun _=>by split<;>omega
   have e3: ∀ _:True,(n-1)/2^s=d:=fun _=>hd.symm
   have key:ia n=cJ.all (pd n s d):=by
    unfold ia;rw[aa h2,hf,<-hs,<-hd]
   rw[key];clear key hf hzs hs hd;refine Bw (aN (e1 oT) (aN (e2 oT) (e3 oT))) @hz @hb ?_;refine ah (α:=Nat) (fun i=>12-i) (fun i=>⟨[(0,U n),(5,E' s),(6,U d),(32, .v (.agg UD)),(33,E' i)],[],_⟩) (fun i=>i<=12/\cJ.all (pd n s d)=(cJ.drop i).all (pd n s d)) 0 (fun _=>aA _) ⟨oO,rfl⟩ ?_ ?_
   ·exact lE
   ·rintro i ⟨hi,hf⟩ R hR
    by_cases hlt:i<12
    ·have g1:=Zv hlt;obtain⟨q0,q1⟩:=R5 hlt;rw[IW hlt,List.all_cons]at hf;have hR1:=hR (i+1);generalize cJ.getD i 0=q at*;have hq:q%n<n:=aV _ oO;have hp:=Pq hq hdl hn;obtain⟨x,hx⟩: ∃x,x=(q%n)^d%n:=⟨_,rfl⟩;have hxl:x<n:=by rw[hx];exact aV _ oO
     have hst:pd n s d q=(x==1||x==n-1||Vg (s-1) x n):=by rw[hx];rfl
     rw[<-hx]at hp;clear hx;repeat' first|simp only[go_sem,seval,g1,hL,e1 oT]|refine cP hp ?_|refine oE ?_|apply xX<;>intro hc
     ·have hx1:x=1:=oO;refine hR1 ⟨oO,by rw[hf,hst,hx1];simp⟩ oO _ ?_
      exact lE
     ·have hx1:x=n-1:=oO;refine hR1 ⟨oO,by rw[hf,hst,hx1];simp⟩ oO _ ?_
      exact lE
     ·have hx1:(x==1)=false:=by rw[du];omega
      have hx2:(x==n-1)=false:=by rw[du];omega
      rw[hx1,hx2,eH,eH]at hst;refine ah (α:=Nat×Nat) (fun z=>s-z.1) (fun z=>⟨[(0,U n),(5,E' s),(6,U d),(32, .v (.agg UD)),(33,E' i),(9,U z.2),(10,E' z.1)],[],_⟩) (fun z=>1<=z.1/\z.2<n/\Vg (s-z.1) z.2 n=Vg (s-1) x n) (1,x) (fun _=>aA _) ⟨aA 1,hxl,rfl⟩ ?_ ?_
      ·exact lE
      ·rintro⟨j,y⟩ ⟨hj,hy,hz⟩ R' hR';simp only at hj hy hz;have hm:=AU hy hy hn;obtain⟨w,hw⟩: ∃w,w=y*y%n:=⟨_,rfl⟩;have hwl:w<n:=by rw[hw];exact aV _ oO
       have hz':j<s->(w==n-1||Vg (s-(j+1)) w n)=Vg (s-1) x n:=by
        intro g;rw[<-hz,show s-j=s-(j+1)+1 by omega,hw];rfl
       rw[<-hw]at hm;clear hw;repeat' first|simp only[go_sem,seval,e1 oT]|refine cP hm ?_|refine oE ?_|apply xX<;>intro hc
       ·have hw1:w=n-1:=oO;have:=hz' oO;rw[hw1,eY,iI]at this;refine hR1 ⟨oO,by rw[hf,hst,<-this,bE]⟩ oO _ ?_
        exact lE
       ·have hw1:(w==n-1)=false:=by rw[du];omega
        have:=hz' oO;rw[hw1,eH]at this;refine hR' (j+1,w) ⟨by show 1<=j+1;omega,hwl,this⟩ (by show s-(j+1)<s-j;omega) _ ?_
        exact lE
       ·rw[hf,hst,<-hz,show s-j=0 by omega];rfl
    ·obtain rfl:i=12:=oO;refine ye ?_;rw[hf];rfl
theorem H6 (a:Bytes):aH 242 [.s a] (.tup [.i .u64 (if ae a&&decide (a.length<=8)then num a else 0),E (if ae a then(if a.length<=8 then 0 else 5)else 3)]):=by
 have hs:=pk a;have hv:=aX a;refine eW call242 func242 ?_;repeat' first|simp only[go_sem,seval]|refine cP hv ?_|refine cP hs ?_|refine oE ?_|apply xX<;>intro hc
 all_goals (simp_all<;>omega)
def fq (a:Bytes):Int:=if ae a then(if a.length<=8 then 0 else 5)else 3
theorem CH (a:Bytes):aH 150 [.s a] (.tup [.b (ae a&&decide (a.length<=8)&&ia (num a)),E (fq a)]):=by
 have hs:=H6 a
 by_cases h:ae a=true/\a.length<=8
 ·obtain⟨h1,h2⟩:=h;have e:fq a=0:=by simp[fq,h1,h2]
  rw[h1,aQ h2]at hs;have hi:=Tt (ga h2);rw[h1,aQ h2,e];refine eW call150 func150 ?_;repeat' first|simp only[go_sem,seval,aC,af h2]|refine cP hs ?_|refine cP hi ?_|refine oE ?_|apply xX<;>intro hc
  all_goals skip
 ·have h0:(ae a&&decide (a.length<=8))=false:=by
   rw[dR];intro g;simp at g;exact h g
  have e:fq a≠0:=by
   unfold fq;split
   ·rename_i g;rw[aa (fun g2=>h ⟨g,g2⟩)];decide
   ·decide
  rw[h0]at hs⊢;have e2:(if ae a then(if a.length<=8 then(0:Int)else 5)else 3)=fq a:=rfl
  rw[e2]at hs;refine eW call150 func150 ?_;repeat' first|simp only[go_sem,seval]|refine cP hs ?_|refine oE ?_|apply xX<;>intro hc
  all_goals skip
end Go.Proofs.Tryz
namespace Go.Proofs.Tryz
open Go Go.Dom Go.RowKit Go.Shelf
theorem qG.calls {P:Program} [cW P] {f:FuncId} {args:List PV} {r:PV} (h:qG P f args r) (he:Go.Dom.Enters P f f) (w:World) (rd:Rd) (vs:List Value) (h1: ∀b o v,TR P b o=some v->rd b o=some v) (h2: ∀b o v,rd b o=some v->w.cell? ⟨b,o,none⟩=some v) (h3:cq (PR rd) args vs):
  CallsIn Fence.wide 0 P f vs.toArray w fun e w'=> ∃v,e= .returned v/\Below w.heap.size w w'/\PR (gK rd w w') r v:=by
 obtain⟨g,hg,hc⟩:=h;have:g=f:=by
  have a:=hg #[] w;rw[he #[] w]at a
  cases a;rfl
 subst this;exact callsIn_wide.2 (hc w rd vs h1 h2 h3)
def HA (n:Nat):Nat->List (List PV)
 |0=>[]
 |k+1=>[.b (n.testBit k)]::HA n k
theorem Kz (e:Bytes) (he:ae e=true):ItP prog 419 [.pt (.agg [.s e]) 0] true (HA (num e) (dG (num e))):=by
 refine⟨call419,?_⟩;intro w rd cvs l J Jx htr hcaps hrd hb hbx hY _ h0;obtain⟨p,us,rfl,hp,hnil⟩:=hcaps.gv;obtain rfl:=hnil.eE;obtain⟨bk,of,rfl,hcell⟩: ∃bk of,p= .pointer (some ⟨bk,of,none⟩)/\rd bk of=some (.string ⟨e.toArray⟩):=by
  cases hp with
  |pt x o vs bk of h1 hl hr h=>
   obtain⟨v,rfl⟩:=qt.1 (show vs.length=1 from hl.symm)
   have:=h 0 (.s e) v rfl rfl;cases this;exact⟨bk,of,rfl,hr 0 _ rfl⟩
 refine callsIn_of_wp func419 rfl oT ?_;simp only[Tryz.ntmps419,mX,List.length_cons,List.length_nil,Nat.reduceAdd,Nat.reduceSub,Array.replicate_succ,Array.replicate_zero,List.push_toArray,List.append_toArray,List.nil_append,List.cons_append];have hc0:=hrd _ _ h0 _ _ _ hcell
 gi_wp2
 refine⟨trivial,rfl,(qG.calls (yf he) call299 w rd [_] htr (hrd _ _ h0) ?_).mono ?_⟩
 ·exact .cons (.s e) .nil
 rintro x w1 ⟨v,rfl,hbl,hpr⟩;cases hpr;have h1:=hb _ _ _ h0 hbl;clear hbl h0 hc0;have hbd:dG (num e)<2^60:=by
  have hl:=eU he;have:=cO e;unfold dG;split
  ·decide
  ·rename_i h0;have h1:num e<2^(8*e.length):=by rw[kR];exact this
   have h2:=(yV h0).2 h1;omega
 have hw:IntKind.i64.wrap ((dG (num e):Int)-1)=(dG (num e):Int)-1:=IntWalk.i64_in _ oO
 gi_wp2
 gi_loopw [3] (fun p wr=> ∃k:Nat,p= .int .i64 ((k:Int)-1)/\k<=dG (num e)/\J (HA (num e) k) wr) (fun p wr=>match p with| .int _ n=>(n+1).toNat| _=>0)
 case atStart=>
  exact⟨_,rfl,aA _,h1⟩
 case round=>
  obtain⟨k,rfl,hk,hJ⟩:=hrel;have hcr:=hrd _ _ hJ _ _ _ hcell
  cases k with
  |zero=>
   gi_wp2
   go_end0
   exact⟨⟨_,rfl⟩, .inl hJ⟩
  |succ k=>
   have hw2:((k+1:Nat):Int)-1=(k:Int):=oO;rw[hw2]
   gi_wp2
   refine⟨trivial,rfl,(qG.calls (zp he k oO) call340 wr rd [_,_] htr (hrd _ _ hJ) ?_).mono ?_⟩
   ·exact .cons (.s e) (.cons (.i _ _) .nil)
   rintro x w2 ⟨v,rfl,hbl,hpr⟩;cases hpr;have hJ2:=hb _ _ _ hJ hbl;obtain⟨fn,tmps,assign,body,hy,hR⟩:=hY [.b ((num e).testBit k)] (HA (num e) k) [.bool ((num e).testBit k)] w2 hJ2 (.cons (.b _) .nil)
   gi_wp2
   refine⟨rfl,hR.mono ?_⟩;rintro x W3 (⟨rfl,hJ3⟩|⟨rfl,hJx⟩)
   ·have hw3:IntKind.i64.wrap ((k:Int)-1)=(k:Int)-1:=IntWalk.i64_in _ oO
    gi_wp2
    go_roundw
    case rel=>exact⟨k,rfl,oO,hJ3⟩
    case measure=>simp
   ·gi_wp2
    refine bodyPost_ret (results_none rfl _ _ _) rfl ?_;exact⟨⟨_,rfl⟩, .inr hJx⟩
end Go.Proofs.Tryz
namespace Go.Proofs.Tryz
open Go Go.Dom
def uo (l:List Bytes) (m:Bytes):Int:=if l.all ae&&ae m then(if m=[]then 11 else 0)else 3
theorem Wv (nm:Nat) (a m:Bytes):jS prog 199 nm [] [.fs [.s a], .fs [.s m]] (.v (E (uo [a] m))) []:=by
 refine jS.w mixed call199 func199 rfl (jq.1 _ _ _ (by cbv)) (jq.2 _ _ (by cbv)) (obs:=[]) (args:=[.fs [.s a], .fs [.s m]]) (fs:=[]) (j:=none) (nw:=none) (v:= .v (E (uo [a] m))) (ns:=[]) (obsA:=[]) rfl ?_ (by simp) (by simp) rfl rfl (by simp[bA,AV.aR]) (by simp[AV.aR]) (by simp[fh,outs])
 have va:=aX a;have vm:=aX m;simp only[go_sem,seval];repeat' first|simp only[go_sem,seval,true_or,or_true,false_or,or_false,ar,gX,ey,gM,fp,fH,eA,nT,om,fO,gS,dE,aK,AV.aR,AV.aR.renL,aG,kO,gA]|refine cP va ?_|refine cP vm ?_|(refine aq ?_)|refine oE ?_|apply xX<;>intro hc
 all_goals simp_all[uo]
theorem Di (nm:Nat) (a b m:Bytes):jS prog 199 nm [] [.fs [.s a, .s b], .fs [.s m]] (.v (E (uo [a,b] m))) []:=by
 refine jS.w mixed call199 func199 rfl (jq.1 _ _ _ (by cbv)) (jq.2 _ _ (by cbv)) (obs:=[]) (args:=[.fs [.s a, .s b], .fs [.s m]]) (fs:=[]) (j:=none) (nw:=none) (v:= .v (E (uo [a,b] m))) (ns:=[]) (obsA:=[]) rfl ?_ (by simp) (by simp) rfl rfl (by simp[bA,AV.aR]) (by simp[AV.aR]) (by simp[fh,outs])
 have va:=aX a;have vb:=aX b;have vm:=aX m;simp only[go_sem,seval];repeat' first|simp only[go_sem,seval,true_or,or_true,false_or,or_false,ar,gX,ey,gM,fp,fH,eA,nT,om,fO,gS,dE,aK,AV.aR,AV.aR.renL,aG,kO,gA]|refine cP va ?_|refine cP vb ?_|refine cP vm ?_|(refine aq ?_)|refine oE ?_|apply xX<;>intro hc
 all_goals simp_all[uo]
theorem UM {a m:Nat} (ha:a<(2^64)) (hm:m<(2^64)) (h0:0<m):uo [b7 a] (b7 m)=0:=by
 have:b7 m≠[]:=fun h=>by rw[jh]at h;omega
 simp[uo,vN ha,vN hm,this]
theorem Cd {a m:Nat} {e:Bytes} (ha:a<(2^64)) (he:ae e=true) (hm:m<(2^64)) (h0:0<m):uo [b7 a,e] (b7 m)=0:=by
 have:b7 m≠[]:=fun h=>by rw[jh]at h;omega
 simp[uo,vN ha,he,vN hm,this]
theorem Hj {a:Nat} (h:a<(2^64)):aH 280 [N a] (.tup [.i .u64 a, .b true]):=by
 have:=pk (b7 a);rw[vN h,aQ (lN h),bG]at this;exact this
theorem Iw {a b m:Nat} (ha:a<(2^64)) (hb:b<(2^64)) (hm:m<(2^64)) (h0:0<m):aH 200 [N a,N b,N m] (N (a*b%m)):=by
 have la:=lN ha;have lb:=lN hb;have lm:=lN hm;have h1:a%m<(2^64):=eR (Nat.mod_le _ _) ha;have h2:b%m<(2^64):=eR (Nat.mod_le _ _) hb;have hq:=uc (a%m) (b%m) h1 h2;have h3:a%m*(b%m)/(2^64)<(2^64):=(je oC).2 (fT h1 h2);have hr:=Ml (a%m*(b%m)/(2^64)) (a%m*(b%m)%(2^64)) m h0 h3 (aV _ oC) hm;have e:a%m*(b%m)/(2^64)*(2^64)+a%m*(b%m)%(2^64)=a%m*(b%m):=oO;rw[e,<-db]at hr;have ho:=iC (a*b%m) (j5 (aV _ h0) hm);have sa:=Hj ha;have sb:=Hj hb;have sm:=Hj hm;clear h3 e h1 h2;refine eW call200 func200 ?_;exact z7 @sa @sb @sm @hq @hr @ho oT
theorem mD {a m:Nat} (ha:a<(2^64)) (hm:m<(2^64)) (h0:0<m):aH 201 [N a,N m] (N (a%m)):=by
 refine eW call201 func201 ?_;exact z1 (tY ha hm h0)
theorem qY {a b m:Nat} (ha:a<(2^64)) (hb:b<(2^64)) (hm:m<(2^64)) (h0:0<m):aH 110 [N a,N b,N m] (.tup [N (a*b%m),E 0]):=by
 have hc:=fun nm=>Di nm (b7 a) (b7 b) (b7 m)
 rw[Cd ha (vN hb) hm h0]at hc;refine eW call110 func110 ?_;repeat' first|simp only[go_sem,seval]|(refine bK (hc _) (by simp) ?_)|refine cP (Iw ha hb hm h0) ?_|refine oE ?_|apply xX<;>intro hc
theorem KA (e:Bytes):aH 409 [.s e] (.fc 419 [] [.pt (.agg [.s e]) 0]):=by
 refine eW call409 func409 ?_;exact z0
theorem Fu (n:Nat): ∀k,∀y∈HA n k,y.length=1
 |0,y,h=>by cases h
 |k+1,y,h=>by
  rcases cM.1 h with rfl|h
  ·rfl
  ·exact Fu n k y h
theorem fS:(.s [1]:PV)=N 1:=rfl
theorem Vf {a z m:Nat}:a^z%m*(a^z%m)%m=a^(2*z)%m:=by rw[<-db,<-dD,sw]
theorem Yq {a z m:Nat}:a^z%m*(a^z%m)%m*(a%m)%m=a^(2*z+1)%m:=by rw[Vf,<-db,<-Nat.pow_succ]
theorem Zb {a m:Nat} {e:Bytes} (ha:a<(2^64)) (he:ae e=true) (hm:m<(2^64)) (h0:0<m):aH 378 [N a, .s e,N m] (.tup [N (a^num e%m),E 0]):=by
 have hc:=fun nm=>Di nm (b7 a) e (b7 m)
 rw[Cd ha he hm h0]at hc;have h1:=mD (a:=1) oC hm h0;refine eW call378 func378 ?_;simp only[go_sem,seval,fS];repeat' first|simp only[go_sem,seval,fS]|(refine bK (hc _) (by simp) ?_)|refine cP (mD ha hm h0) ?_|refine cP h1 ?_|refine cP (KA e) ?_|(refine Mb (Kz e he) rfl (Fu _ _) ?_)|refine oE ?_|apply xX<;>intro hc
 obtain⟨n,hn⟩: ∃n,n=num e:=⟨_,rfl⟩;rw[<-hn];have hbl:n/2^dG n=0:=by
  refine iZ ?_;unfold dG;split
  ·subst_vars;rename_i h;rw[h];decide
  ·rename_i h;exact vI
 refine Yh (α:=Nat) (fun k=>⟨[(3, .p 1000 0 0),(5, .p 1001 0 0),(9, .p 1019 0 0)],[(1000,⟨0,[.v (N (a%m))],false,none⟩),(1001,⟨0,[.v (N m)],false,none⟩),(1019,⟨0,[.v (N (a^(n/2^k)%m))],false,some 22⟩)],_⟩) (fun ys k=>ys=HA n k) (dG n) (fun _=>aA _) rfl ?_ ?_ ?_
 ·(refine AS.Le.of (by first|decide|omega) ?_ ?_<;>simp[cU,cT,aO,az,AV.bd,AV.bd.bdL,u8,aj,ak,an])
  rw[hbl,Nat.pow_zero]
 ·intro k hk
  cases k with
  |succ k=>cases hk
  |zero=>
   refine ye ?_;rw[jx]
 ·intro y ys k hk R hR
  cases k with
  |zero=>cases hk
  |succ k=>
   simp only[HA,List.cons.injEq]at hk;obtain⟨rfl,rfl⟩:=hk;obtain⟨x,hx⟩: ∃x,x=a^(n/2^(k+1))%m:=⟨_,rfl⟩;have hxm:x<m:=by rw[hx];exact aV _ h0
   have t1:=Iw (a:=x) (b:=x) oO oO hm h0;have hxx:x*x%m<m:=aV _ h0;have ham:a%m<m:=aV _ h0;have t2:=Iw (a:=x*x%m) (b:=a%m) oO oO hm h0;have hbit:=l9 (x:=n) (i:=k);have hdd:n/2^(k+1)=n/2^k/2:=by rw[Nat.pow_succ,ff]
   rw[<-hx,hbit];repeat' first|simp only[go_sem,seval]|refine cP t1 ?_|refine cP t2 ?_|refine oE ?_|apply xX<;>intro hc
   ·have hb2:n/2^k=2*(n/2^(k+1))+1:=oO;refine hR k rfl _ ?_;rw[hb2,hx,Yq];exact lE
   ·have hb2:n/2^k=2*(n/2^(k+1)):=oO;refine hR k rfl _ ?_;rw[hb2,hx,Vf];exact lE
theorem XF (n:Nat):(b7 n==([1]:Bytes))=decide (n=1):=Ca n 1
end Go.Proofs.Tryz
namespace Go.Proofs.Tryz
open Go Go.Dom Go.Num

abbrev G (m o:Bytes):PV:= .agg [.s m, .s o]
theorem fA {a:Bytes} (h:ae a=true):N (num a)= .s a:=congrArg PV.s (jr h)
def jE (m o:Bytes):Bool:=ae m&&o==[]&&(num m).testBit 0&&decide (8<num m)
theorem Of8:aH 24 [.i .u64 8] (.s [8]):=iC 8 oC
theorem Da:aH 24 [.i .u64 1] (.s [1]):=iC 1 oC
theorem VM:aH 24 [.i .u64 2] (.s [2]):=iC 2 oC
theorem SL (m o:Bytes):aH 379 [G m o] (.b (jE m o)):=by
 have hv:=aX m
 by_cases h:ae m=true
 ·have hb:=zp h 0 oC;have hcm:=nk m [8];rw[h]at hv;rw[h,show ae [8]=true from rfl,show num [8]=8 from rfl]at hcm
  have he:a7 (num m) 8>0↔8<num m:=by unfold a7;split<;>(try split)<;>omega
  refine eW call379 func379 ?_;repeat' first|simp only[go_sem,seval]|refine cP hv ?_|refine cP hb ?_|refine cP Of8 ?_|refine cP hcm ?_|refine oE ?_|apply xX<;>intro hc
  all_goals simp_all[jE]
 ·have h:ae m=false:=by simpa using h
  rw[h]at hv;have e:jE m o=false:=by simp[jE,h]
  rw[e];refine eW call379 func379 ?_;exact z1 @hv
theorem T0:aH 381 [] (N 1):=by
 refine eW call381 func381 ?_;exact z1 @Da
def Bb (m o x:Bytes):Bool:=jE m o&&ae x&& !(x==[])&&decide (num x<num m)&&decide (Nat.gcd (num x) (num m)=1)
theorem zR (a b:Nat):(a7 a b>=0)=(b<=a):=by
 unfold a7;rw[eq_iff_iff];split<;>(try split)<;>omega
theorem TJ {m:Bytes} (lm:m.length<=8) (o x:Bytes):aH 342 [G m o, .s x] (.b (Bb m o x)):=by
 have hg:=SL m o;have hv:=aX x
 by_cases h:jE m o=true/\ae x=true/\x≠[]/\num x<num m
 ·obtain⟨h1,h2,h3,h4⟩:=h;have hm:ae m=true:=by simp[jE]at h1;exact h1.1.1.1
  have hcm:=nk x m;rw[h2,hm]at hcm;have hnm:=ga lm;have hgc:=abR (a:=num x) (b:=num m) oO hnm;rw[fA h2,fA hm]at hgc;rw[h1]at hg;rw[h2]at hv;have hx:(x==([]:Bytes))=false:=by simpa using h3
  have hlt: ¬a7 (num x) (num m)>=0:=by rw[zR];omega
  have e:Bb m o x=decide (Nat.gcd (num x) (num m)=1):=by simp[Bb,h1,h2,h4];intro;exact h3
  rw[e];refine eW call342 func342 ?_;repeat' first|simp only[go_sem,seval,hx,Ca]|refine cP hg ?_|refine cP hv ?_|refine cP hcm ?_|refine cP hgc ?_|refine cP T0 ?_|refine oE ?_|apply xX<;>intro hc
  all_goals skip
 ·have e:Bb m o x=false:=by
   rw[dR];intro g;simp[Bb]at g;exact h ⟨g.1.1.1.1,g.1.1.1.2,g.1.1.2,g.1.2⟩
  have hcm:=nk x m;rw[e]
  by_cases h1:jE m o=true
  ·have hm:ae m=true:=by simp[jE]at h1;exact h1.1.1.1
   rw[h1]at hg
   by_cases h2:ae x=true
   ·rw[h2]at hv;rw[h2,hm]at hcm
    by_cases h3:x=[]
    ·subst h3;refine eW call342 func342 ?_;exact vV @nn @hg @hv
    ·have hx:(x==([]:Bytes))=false:=by simpa using h3
     have hge:a7 (num x) (num m)>=0:=by rw[zR];exact Nat.le_of_not_lt fun g=>h ⟨h1,h2,h3,g⟩
     refine eW call342 func342 ?_;repeat' first|simp only[go_sem,seval,hx]|refine cP hg ?_|refine cP hv ?_|refine cP hcm ?_|refine oE ?_|apply xX<;>intro hc
     all_goals skip
   ·have h2:ae x=false:=by simpa using h2
    rw[h2]at hv;refine eW call342 func342 ?_;exact z2 @hg @hv
  ·have h1:jE m o=false:=by simpa using h1
   rw[h1]at hg;refine eW call342 func342 ?_;exact z1 @hg
structure adx (m o p q:Bytes):Prop where
 vm:ae m=true
 vp:ae p=true
 vq:ae q=true
 lp:p.length<=8
 lq:q.length<=8
 o:o=[]
 mul:num m=num p*num q
 odd:num m%2=1
 sp:N9 (num p)=true
 sq:N9 (num q)=true
 ne:num p≠num q
theorem rQ (n:Bool) (a:Bytes):aH 61 [.b n, .s a] (.agg [.b (n&& !(a==[])), .s a]):=by
 refine eW call61 func61 ?_;exact zs0
theorem gY (n:Bool) (a:Bytes):aH 122 [.agg [.b n, .s a]] (.b (ae a&& !(n&&a==[]))):=by
 have hv:=aX a;refine eW call122 func122 ?_;exact zs1 @hv
theorem yj {a:Bytes} (h:ae a=true):aH 108 [.s a] (.agg [.b false, .s a]):=by
 have hv:=aX a;rw[h]at hv;refine eW call108 func108 ?_;repeat' first|simp only[go_sem,seval]|refine cP hv ?_|refine cP (rQ _ _) ?_|refine oE ?_|apply xX<;>intro hc
 all_goals simp_all
theorem KN (m o:Bytes):aH 377 [G m o] (.b (ae m&&ae o)):=by
 have v1:=aX m;have v2:=aX o;refine eW call377 func377 ?_;exact Ut @v1 @v2
theorem abY {a b:Nat} (ha:a<(2^64)) (hb:b<(2^64)):aH 202 [N a,N b] (.tup [if b<=a then N (a-b)else .s [],E (if b<=a then 0 else 2)]):=by
 have:=Mm (b7 a) (b7 b);simp only[xc,vN ha,vN hb,dF,aC,bG]at this
 by_cases h:b<=a
 ·simp only[h,aC]at this⊢;exact this
 ·simp only[h,aB]at this⊢;exact this
def oz (m o x:Bytes):Bool:=ae m&&ae o&&ae x&& !(o==[])&& !(x==[])&&decide (num x<num m)&&decide (num x^num o%num m=1%num m)
theorem Pg {m:Bytes} (lm:m.length<=8) (o x:Bytes):aH 341 [G m o, .s x] (.b (oz m o x)):=by
 have hf:=KN m o;have vx:=aX x;have hcm:=nk x m
 by_cases h:ae m=true/\ae o=true/\ae x=true/\o≠[]/\x≠[]/\num x<num m
 ·obtain⟨v1,v2,v3,h4,h5,h6⟩:=h;have e4:(o==([]:Bytes))=false:=by simpa using h4
  have e5:(x==([]:Bytes))=false:=by simpa using h5
  have hn:=ga lm;have hE:=Zb (a:=num x) (m:=num m) (e:=o) oO v2 hn oO;have hE0:=Zb (a:=num x) (m:=num m) (e:=[]) oO rfl hn oO;rw[fA v3,fA v1]at hE hE0;rw[show num ([]:Bytes)=0 from rfl,Nat.pow_zero]at hE0
  rw[v1,v2]at hf;rw[v3]at vx;rw[v3,v1]at hcm;have hlt: ¬a7 (num x) (num m)>=0:=by rw[zR];omega
  have e:oz m o x=decide (num x^num o%num m=1%num m):=by simp[oz,v1,v2,v3,e4,e5,h6]
  rw[e];generalize num x^num o%num m=z1 at*;generalize 1%num m=z2 at*;refine eW call341 func341 ?_;exact QR (aN @e4 (aN @e5 @Ca)) @hf @vx @hcm @hE @hE0 oT oT
 ·have e:oz m o x=false:=by
   rw[dR];intro g;simp[oz]at g;exact h ⟨g.1.1.1.1.1.1,g.1.1.1.1.1.2,g.1.1.1.1.2,g.1.1.1.2,g.1.1.2,g.1.2⟩
  rw[e]
  by_cases v1:ae m=true<;>by_cases v2:ae o=true<;>by_cases v3:ae x=true
  ·rw[v1,v2]at hf;rw[v3]at vx;rw[v3,v1]at hcm
   by_cases h4:o=[]
   ·subst h4;refine eW call341 func341 ?_;exact vV @nn @hf @vx
   ·have e4:(o==([]:Bytes))=false:=by simpa using h4
    by_cases h5:x=[]
    ·subst h5;refine eW call341 func341 ?_;exact vV (aN @nn @e4) @hf @vx
    ·have e5:(x==([]:Bytes))=false:=by simpa using h5
     have hge:a7 (num x) (num m)>=0:=by rw[zR];exact Nat.le_of_not_lt fun g=>h ⟨v1,v2,v3,h4,h5,g⟩
     refine eW call341 func341 ?_;exact ry (aN @e4 @e5) @hf @vx @hcm oT
  all_goals simp only[Bool.not_eq_true]at v1 v2 v3
  all_goals simp only[v1,v2,me,mU,dF,bE,br]at hf
  all_goals simp only[v3]at vx
  ·refine eW call341 func341 ?_;exact z2 @hf @vx
  ·refine eW call341 func341 ?_;exact z2 @hf @vx
  ·refine eW call341 func341 ?_;exact z2 @hf @vx
  ·refine eW call341 func341 ?_;exact z2 @hf @vx
  ·refine eW call341 func341 ?_;exact z2 @hf @vx
  ·refine eW call341 func341 ?_;exact z2 @hf @vx
  ·refine eW call341 func341 ?_;exact z2 @hf @vx
end Go.Proofs.Tryz
namespace Go.Proofs.Tryz
open Go Go.Dom
def lA (k:Bytes) (c:UInt8) (i:Nat):Bytes:=(List.range 64).map fun j=>if j<i then k.getD j 0^^^c else k.getD j 0
def Es (k:Bytes) (c:UInt8):Bytes:=lA k c 64
def DJ (k:Bytes):Bytes:=if k.length>64 then mJ k else k
def OM (k s:Bytes):Bytes:=mJ (Es (DJ k) 92++mJ (Es (DJ k) 54++s))
theorem fI (k:Bytes) (c:UInt8) (i:Nat):(lA k c i).length=64:=by simp[lA]
theorem vu {k:Bytes} {c:UInt8} {i j:Nat} (h:j<64):(lA k c i).getD j 0=if j<i then k.getD j 0^^^c else k.getD j 0:=by
 simp[lA,bu,h]
theorem G8 {k:Bytes} {c:UInt8} {i:Nat} (h:i<64):(lA k c i).set i (k.getD i 0^^^c)=lA k c (i+1):=by
 apply vO
 ·simp[lA]
 ·intro n h1 h2;rw[List.getElem_set];simp only[lA,EY,List.getElem_range]
  by_cases hn:i=n
  ·subst hn;simp
  ·rw[aa hn];have:(n<i)=(n<i+1):=by simp;omega
   simp only[this]
theorem JH {k:Bytes} (c:UInt8) (h:k.length<=64):List.take k.length (aM k)++List.drop k.length (List.replicate 64 (AV.v (.i .u8 0)))=aM (lA k c 0):=by
 rw[kf];unfold aM lA;apply vO
 ·simp;omega
 ·intro n h1 h2;simp only[au,qk]at h2;simp only[EY,List.getElem_range,kI,aB]
  by_cases hn:n<k.length
  ·rw[List.getElem_append_left (by simpa using hn)]
   simp[bu,hn]
  ·rw[List.getElem_append_right (by simpa using hn)]
   simp only[List.getElem_drop,List.getElem_replicate];simp[bu,hn,u8]
theorem ka {l:Bytes} {i:Nat} (h:i<l.length):(aM l).getD i .u= .v (u8 (l.getD i 0)):=by
 simp[aM,bu,h]
theorem R8 (l:Bytes) {o:Nat} (c:UInt8) (h:o<l.length):(aM l).take o++(.v (.i .u8 (c.toNat:Int))::(aM l).drop (o+1))=aM (l.set o c):=by
 unfold aM;rw[vF,yO];simp[h,u8]
theorem Up (a c:UInt8):FV .u8 (a.toNat:Int) (c.toNat:Int)=((a^^^c).toNat:Int):=by
 have:=UX .u8 rfl (a:=a.toNat) (b:=c.toNat) (by have:=a.toNat_lt;exact this) (by have:=c.toNat_lt;exact this)
 rw[this];simp
theorem VJ {k s:Bytes} (h0:k.length<1000000) (hs:s.length<1000000):aH 387 [.s k, .s s] (.s (OM k s)):=by
 have hq:=sZ (s:=k) oO;have hq2:(mJ k).length<=64:=by rw[jH];decide
 have hs1:=sZ (s:=Es (DJ k) 54++s) (by rw[bR,Es,fI];omega)
 have hs2:=sZ (s:=Es (DJ k) 92++mJ (Es (DJ k) 54++s)) (by rw[bR,Es,fI,jH];omega)
 unfold OM
 by_cases hk:k.length<=64
 ·have e:DJ k=k:=by unfold DJ;rw[aa oO]
  rw[e]at hs1 hs2⊢;clear hq hq2 h0;refine eW call387 func387 ?_;refine pO ?_;refine ah (α:=Nat) (fun i=>64-i) (fun i=>⟨[(1, .v (.s s)),(5, .p 1004 0 0),(6, .p 1005 0 0),(19,E' i)],[(1005,⟨0,aM (lA k 92 i),false,some 375⟩),(1004,⟨0,aM (lA k 54 i),false,some 375⟩)],_⟩) (fun i=>i<=64) 0 (fun _=>aA _) (aD _) ?_ ?_
  ·refine AS.Le.of oD ?_ ?_<;>simp[cU,cT,aO,az,AV.bd,ak,hk];exact⟨JH 92 hk,JH 54 hk⟩
  ·intro i hi R hR
   by_cases hlt:i<64
   ·have hgo:=hR (i+1) oO oO;have g1:(aM (lA k 54 i)).getD i .u= .v (.i .u8 ((k.getD i 0).toNat:Int)):=by rw[ka (by rw[fI];exact hlt),vu hlt,aa (oY i)];rfl
    have g2:(aM (lA k 92 i)).getD i .u= .v (.i .u8 ((k.getD i 0).toNat:Int)):=by rw[ka (by rw[fI];exact hlt),vu hlt,aa (oY i)];rfl
    have g3:=Up (k.getD i 0) 54;have g4:=Up (k.getD i 0) 92;have g5:((54:UInt8).toNat:Int)=54:=rfl;have g6:((92:UInt8).toNat:Int)=92:=rfl;rw[g5]at g3;rw[g6]at g4;refine dw (aN @g1 (aN @g2 (aN @g3 (aN @g4 @fI)))) ?_;refine hgo _ ?_;have g7:=R8 (lA k 92 i) (o:=i) (k.getD i 0^^^92) (by rw[fI];exact hlt)
    have g8:=R8 (lA k 54 i) (o:=i) (k.getD i 0^^^54) (by rw[fI];exact hlt)
    rw[G8 hlt]at g7 g8;refine AS.Le.of oD ?_ ?_<;>simp[cU,cT,aO,az,AV.bd,ak];exact⟨by simpa using g7,by simpa using g8⟩
   ·obtain rfl:i=64:=oO;have t1: ∀c,List.take 64 (aM (lA k c 64))=aM (lA k c 64):=fun c=>cQ (by rw[ny,fI];exact aA _)
    have t2: ∀l,(∀y,y∈aM l->y.isByte)=True:=fun l=>by
     simp only[eq_iff_iff,iff_true];intro y hy;obtain⟨c,-,rfl⟩:=cx.1 hy;simp[AV.isByte,u8,Am]
    unfold Es at hs1 hs2⊢;exact vV (aN @fI (aN @t1 (aN @t2 (aN @mn @jH)))) @hs1 @hs2
 ·have e:DJ k=mJ k:=by unfold DJ;rw[af oO]
  rw[e]at hs1 hs2⊢;generalize mJ k=q at*;refine eW call387 func387 ?_;refine zx1 @hq ?_;clear hq h0 hk;have hk:=hq2;refine ah (α:=Nat) (fun i=>64-i) (fun i=>⟨[(1, .v (.s s)),(5, .p 1007 0 0),(6, .p 1008 0 0),(19,E' i)],[(1008,⟨0,aM (lA q 92 i),false,some 375⟩),(1007,⟨0,aM (lA q 54 i),false,some 375⟩)],_⟩) (fun i=>i<=64) 0 (fun _=>aA _) (aD _) ?_ ?_
  ·refine AS.Le.of oD ?_ ?_<;>simp[cU,cT,aO,az,AV.bd,ak,hk];exact⟨JH 92 hk,JH 54 hk⟩
  ·intro i hi R hR
   by_cases hlt:i<64
   ·have hgo:=hR (i+1) oO oO;have g1:(aM (lA q 54 i)).getD i .u= .v (.i .u8 ((q.getD i 0).toNat:Int)):=by rw[ka (by rw[fI];exact hlt),vu hlt,aa (oY i)];rfl
    have g2:(aM (lA q 92 i)).getD i .u= .v (.i .u8 ((q.getD i 0).toNat:Int)):=by rw[ka (by rw[fI];exact hlt),vu hlt,aa (oY i)];rfl
    have g3:=Up (q.getD i 0) 54;have g4:=Up (q.getD i 0) 92;have g5:((54:UInt8).toNat:Int)=54:=rfl;have g6:((92:UInt8).toNat:Int)=92:=rfl;rw[g5]at g3;rw[g6]at g4;refine dw (aN @g1 (aN @g2 (aN @g3 (aN @g4 @fI)))) ?_;refine hgo _ ?_;have g7:=R8 (lA q 92 i) (o:=i) (q.getD i 0^^^92) (by rw[fI];exact hlt)
    have g8:=R8 (lA q 54 i) (o:=i) (q.getD i 0^^^54) (by rw[fI];exact hlt)
    rw[G8 hlt]at g7 g8;refine AS.Le.of oD ?_ ?_<;>simp[cU,cT,aO,az,AV.bd,ak];exact⟨by simpa using g7,by simpa using g8⟩
   ·obtain rfl:i=64:=oO;have t1: ∀c,List.take 64 (aM (lA q c 64))=aM (lA q c 64):=fun c=>cQ (by rw[ny,fI];exact aA _)
    have t2: ∀l,(∀y,y∈aM l->y.isByte)=True:=fun l=>by
     simp only[eq_iff_iff,iff_true];intro y hy;obtain⟨c,-,rfl⟩:=cx.1 hy;simp[AV.isByte,u8,Am]
    unfold Es at hs1 hs2⊢;exact vV (aN @fI (aN @t1 (aN @t2 (aN @mn @jH)))) @hs1 @hs2
end Go.Proofs.Tryz
namespace Go.Proofs.Tryz
open Go Go.Dom Go.RowKit Go.Shelf
theorem HS: ∀(k u:Nat),u<10^(k+1)->Lib.nDigits u<=k+1:=by
 intro k
 induction k with
 |zero=>intro u h;rw[Lib.nDigits_small (by simpa using h)];exact aA _
 |succ k ih=>
  intro u h
  by_cases hu:u<10
  ·rw[Lib.nDigits_small hu];omega
  ·rw[Lib.nDigits_big hu];have:=ih (u/10) (by rw[Nat.pow_succ]at h;omega)
   omega
theorem Dp {n:Nat} (h:n<4294967296):(Lib.decDigits n).length<=10:=by
 rw[Lib.decDigits_length];exact HS 9 n (by omega)
def Kp (at' a b:Nat):Bytes:=Lib.decDigits at'++[46]++Lib.decDigits a++[46]++Lib.decDigits b
def Dg (sd:Bytes) (at' a b:Nat):Bytes:=OM sd (Kp at' a b)
def Ko (sd:Bytes) (at' a:Nat) (b:Nat):Nat->List (List PV)
 |0=>[]
 |k+1=>[.s (Dg sd at' a b)]::Ko sd at' a (b+1) k
theorem Kq {vs:PV} {sd:Bytes} {at' a k:Nat} (hsd:sd.length<1000000) (hk:k<1000000) (ha:at'<4294967296) (ha2:a<4294967296):ItP prog 386 [.pt (.agg [vs, .s sd, .i .i64 at']) 0, .pt (.agg [.i .i64 a]) 0] false (Ko sd at' a 0 k):=by
 refine⟨call386,?_⟩;intro w rd cvs l J Jx htr hcaps hrd hb hbx hY hfin h0;have hfin:=hfin rfl;obtain⟨p,us,rfl,hp,hcaps⟩:=hcaps.gv;obtain⟨q,us,rfl,hq,hnil⟩:=hcaps.gv;obtain rfl:=hnil.eE;obtain⟨bp,op,rfl,c1,c2⟩: ∃bp op,p= .pointer (some ⟨bp,op,none⟩)/\rd bp (op+1)=some (.string ⟨sd.toArray⟩)/\rd bp (op+2)=some (.int .i64 at'):=by
  cases hp with
  |pt x o vs' bk of h1 hl hr h=>
   have hv: ∀i,i<3-> ∃v,vs'[i]?=some v:=fun i hi=>⟨_,bC (by have:vs'.length=3:=hl.symm;omega)⟩
   obtain⟨a1,b1⟩:=hv 1 (by decide)
   obtain⟨a2,b2⟩:=hv 2 (by decide)
   have q1:=h 1 _ _ rfl b1;have q2:=h 2 _ _ rfl b2
   cases q1;cases q2
   exact⟨bk,of,rfl,hr 1 _ b1,hr 2 _ b2⟩
 obtain⟨bq,oq,rfl,c3⟩: ∃bq oq,q= .pointer (some ⟨bq,oq,none⟩)/\rd bq oq=some (.int .i64 a):=by
  cases hq with
  |pt x o vs' bk of h1 hl hr h=>
   obtain⟨v,rfl⟩:=qt.1 (show vs'.length=1 from hl.symm)
   have:=h 0 _ v rfl rfl;cases this;exact⟨bk,of,rfl,hr 0 _ rfl⟩
 refine callsIn_of_wp func386 rfl trivial ?_;simp only[Tryz.ntmps386,mX,List.length_cons,List.length_nil,Nat.reduceAdd,Nat.reduceSub,Array.replicate_succ,Array.replicate_zero,List.push_toArray,List.append_toArray,List.nil_append,List.cons_append]
 gi_wp2
 gi_loopw [4] (fun p wr=> ∃b:Nat,p= .int .i64 (b:Int)/\b<=k/\J (Ko sd at' a b (k-b)) wr) (fun p wr=>match p with| .int _ n=>k-n.toNat| _=>0)
 case atStart=>
  exact⟨0,rfl,aD _,h0⟩
 case round=>
  obtain⟨b,rfl,hbk,hJ⟩:=hrel;have hlt:b<k:=by
   rcases qn b k with h|h
   ·exact h
   ·have:k-b=0:=by omega
    rw[this]at hJ;exact(hfin trivial _ hJ).elim
  obtain⟨m,hm⟩: ∃m,k-b=m+1:=⟨k-b-1,by omega⟩
  rw[hm]at hJ;change J ([.s (OM sd (Kp at' a b))]::Ko sd at' a (b+1) m) wr at hJ;have h1:=Mf at' ha;have h2:=Mf a ha2;have h3:=Mf b (by omega)
  have l1:=Dp ha;have l2:=Dp ha2;have l3:=Dp (n:=b) (by omega)
  have hlN:(Kp at' a b).length<1000000:=by simp[Kp];omega
  refine wpIn_seq (wpIn_block (wpIn_seq ?_));refine wpIn_mono (Lm mixed (rd:=rd) (pvs:=[(1, .pt (.agg [vs, .s sd, .i .i64 at']) 0),(2, .pt (.agg [.i .i64 a]) 0),(4, .i .i64 b)]) (out:=[(5, .s (Kp at' a b))]) (jq.1 26 _ _ (by cbv)) rfl htr (hrd _ _ hJ) ?hp (CW.start ?aw)) ?cont
  case hp=>
   intro p hm;simp only[cM,jN,or_false]at hm;rcases hm with rfl|rfl|rfl
   ·exact hp
   ·exact hq
   ·exact .i _ _
  case aw=>
   simp only[go_sem,seval];repeat' first|simp only[go_sem,seval,bR]|refine cP h1 ?_|refine cP h2 ?_|refine cP h3 ?_|refine oE ?_|apply xX<;>intro hc
   all_goals simp[Kp]
  case cont=>
   rintro e ⟨t,df⟩ W2 ⟨rfl,⟨hdf,hsz,hbl,hout⟩,hkp⟩;have k0:=hkp.at 0 rfl;have k1:=hkp.at 1 rfl;have k2:=hkp.at 2 rfl;have k3:=hkp.at 3 rfl;have k4:=hkp.at 4 rfl;have k5:=hout _ (fa.2 rfl);have hl:=RI hsz;simp only[mX,List.length_cons,List.length_nil,eX,Nat.reduceAdd]at hl;rw[show List.range 26=[0,1,2,3,4,5,6,7,8,9,10,11,12,13,14,15,16,17,18,19,20,21,22,23,24,25]from rfl]at hl
   simp only[b8,cb]at hl;change t.getD 0 undef=Value.func (Fn.yield l) #[] #[]at k0;change t.getD 1 undef=Value.pointer (some ⟨bp,op,none⟩)at k1;change t.getD 2 undef=Value.pointer (some ⟨bq,oq,none⟩)at k2;change t.getD 3 undef=undef at k3;change t.getD 4 undef=Value.int .i64 b at k4;change PR _ _ (t.getD 5 undef)at k5;rw[k0,k1,k2,k3,k4]at hl;generalize t.getD 5 undef=v5 at hl k5;cases k5;obtain rfl:df=[]:=hdf;rw[hl];clear hl k0 k1 k2 k3 k4 hsz hout hkp;simp only[Exit.then];have hJ2:=hb _ _ _ hJ hbl;have d4:=hrd _ _ hJ2 _ _ _ (c1)
   gi_wp2
   refine⟨trivial,rfl,(qG.calls (VJ hsd hlN) call387 W2 rd [_,_] htr (hrd _ _ hJ2) ?_).mono ?_⟩
   ·exact .cons (.s _) (.cons (.s _) .nil)
   rintro x W3 ⟨v,rfl,hbl3,hpr⟩;cases hpr;have hJ3:=hb _ _ _ hJ2 hbl3;obtain⟨fn,tmps,assign,body,hy,hR⟩:=hY _ _ _ W3 hJ3 (.cons (.s _) .nil)
   gi_wp2
   refine⟨rfl,hR.mono ?_⟩;rintro x W4 (⟨rfl,hJ5⟩|⟨rfl,hJx⟩)
   ·have hw3:IntKind.i64.wrap ((b:Int)+1)=(b:Int)+1:=IntWalk.i64_in _ (by omega)
    gi_wp2
    refine⟨⟨b+1,by push_cast;rfl,by omega,by rw[show k-(b+1)=m from by omega];exact hJ5⟩,?_⟩
    ·show k-((b:Int)+1).toNat<k-(b:Int).toNat;omega
   ·gi_wp2
    refine bodyPost_ret (results_none rfl _ _ _) rfl ?_;exact⟨⟨_,rfl⟩, .inr hJx⟩
