/- Part of the proof. -/
import Derived.RangeFuncKeeps
import Derived.RangeFuncLeaves
import Derived.Shelf.Abstract
import Derived.WalkKit
import Derived.OwnWalkIn
import Derived.TacticsInMore
import Derived.LoopNIn
import Derived.LoopIn
import Derived.Test.YtipbhapfacgabaaGreatDoorUH22
set_option linter.all false
set_option maxHeartbeats 8000000
set_option maxRecDepth 100000
namespace Go.Proofs.Tryz
open Go Go.Dom Go.RowKit Go.Shelf
theorem qO.calls {P:Program} [ct P] {f:FuncId} {args:List PV} {r:PV} (h:qO P f args r) (he:Go.Dom.Enters P f f) (w:World) (rd:Rd) (vs:List Value) (h1: ∀b o v,TR P b o=some v->rd b o=some v) (h2: ∀b o v,rd b o=some v->w.cell? ⟨b,o,none⟩=some v) (h3:bC (PR rd) args vs):
  CallsIn Fence.wide 0 P f vs.toArray w fun e w'=> ∃v,e= .returned v/\Below w.heap.size w w'/\PR (fW rd w w') r v:=by
 obtain⟨g,hg,hc⟩:=h;have:g=f:=by
  have a:=hg #[] w;rw[he #[] w]at a
  cases a;rfl
 subst this;exact callsIn_wide.2 (hc w rd vs h1 h2 h3)
def Gk (n:Nat):Nat->List (List PV)
 |0=>[]
 |k+1=>[.b (n.testBit k)]::Gk n k
theorem JS (e:Bytes) (he:aa e=true):WO prog 353 [.pt (.agg [.s e]) 0] true (Gk (num e) (cH (num e))):=by
 refine⟨call353,?_⟩;intro w rd cvs l J Jx htr hcaps hrd hb hbx hY _ h0;obtain⟨p,us,rfl,hp,hnil⟩:=hcaps.fO;obtain rfl:=hnil.dx;obtain⟨bk,of,rfl,hcell⟩: ∃bk of,p= .pointer (some ⟨bk,of,none⟩)/\rd bk of=some (.string ⟨e.toArray⟩):=by
  cases hp with
  |pt x o vs bk of h1 hl hr h=>
   obtain⟨v,rfl⟩:=pj.1 (show vs.length=1 from hl.symm)
   have:=h 0 (.s e) v rfl rfl;cases this;exact⟨bk,of,rfl,hr 0 _ rfl⟩
 refine callsIn_of_wp func353 rfl oT ?_;simp only[Tryz.ntmps353,kL,List.length_cons,List.length_nil,Nat.reduceAdd,Nat.reduceSub,Dr,Array.replicate_zero,Dk,Dd,List.nil_append,List.cons_append];have hc0:=hrd _ _ h0 _ _ _ hcell
 gi_wp2
 refine⟨trivial,rfl,(qO.calls (wu he) call94 w rd [_] htr (hrd _ _ h0) ?_).mono ?_⟩
 ·exact .cons (.s e) .nil
 rintro x w1 ⟨v,rfl,hbl,hpr⟩;cases hpr;have h1:=hb _ _ _ h0 hbl;clear hbl h0 hc0;have hbd:cH (num e)<2^60:=by
  have hl:=eu he;have:=cu e;unfold cH;split
  ·decide
  ·rename_i h0;have h1:num e<2^(8*e.length):=by rw[gX];exact this
   have h2:=(wR h0).2 h1;omega
 have hw:IntKind.i64.wrap ((cH (num e):Int)-1)=(cH (num e):Int)-1:=IntWalk.i64_in _ oO
 gi_wp2
 gi_loopw [3] (fun p wr=> ∃k:Nat,p= .int .i64 ((k:Int)-1)/\k<=cH (num e)/\J (Gk (num e) k) wr) (fun p wr=>match p with| .int _ n=>(n+1).toNat| _=>0)
 case atStart=>
  exact⟨_,rfl,aB _,h1⟩
 case round=>
  obtain⟨k,rfl,hk,hJ⟩:=hrel;have hcr:=hrd _ _ hJ _ _ _ hcell
  cases k with
  |zero=>
   gi_wp2
   go_end0
   exact⟨⟨_,rfl⟩, .inl hJ⟩
  |succ k=>
   have hw2:((k+1:Nat):Int)-1=(k:Int):=oO;rw[hw2]
   gi_wp2
   refine⟨trivial,rfl,(qO.calls (xz he k oO) call97 wr rd [_,_] htr (hrd _ _ hJ) ?_).mono ?_⟩
   ·exact .cons (.s e) (.cons (.i _ _) .nil)
   rintro x w2 ⟨v,rfl,hbl,hpr⟩;cases hpr;have hJ2:=hb _ _ _ hJ hbl;obtain⟨fn,tmps,assign,body,hy,hR⟩:=hY [.b ((num e).testBit k)] (Gk (num e) k) [.bool ((num e).testBit k)] w2 hJ2 (.cons (.b _) .nil)
   gi_wp2
   refine⟨rfl,hR.mono ?_⟩;rintro x W3 (⟨rfl,hJ3⟩|⟨rfl,hJx⟩)
   ·have hw3:IntKind.i64.wrap ((k:Int)-1)=(k:Int)-1:=IntWalk.i64_in _ oO
    gi_wp2
    go_roundw
    case rel=>exact⟨k,rfl,oO,hJ3⟩
    case measure=>simp
   ·gi_wp2
    refine bodyPost_ret (results_none rfl _ _ _) rfl ?_;exact⟨⟨_,rfl⟩, .inr hJx⟩
end Go.Proofs.Tryz
namespace Go.Proofs.Tryz
open Go Go.Dom
def ux (l:List Bytes) (m:Bytes):Int:=if l.all aa&&aa m then(if m=[]then 11 else 0)else 3
theorem Gg (nm:Nat) (a m:Bytes):jU prog 161 nm [] [.fs [.s a], .fs [.s m]] (.v (E (ux [a] m))) []:=by
 refine jU.w mixed call161 func161 rfl (j5.1 _ _ _ (by cbv)) (j5.2 _ _ (by cbv)) (obs:=[]) (args:=[.fs [.s a], .fs [.s m]]) (fs:=[]) (j:=none) (nw:=none) (v:= .v (E (ux [a] m))) (ns:=[]) (obsA:=[]) rfl ?_ (by simp) (by simp) rfl rfl (by simp[aU,AV.ren]) (by simp[AV.ren]) (by simp[fT,outs])
 have va:=aD a;have vm:=aD m;simp only[go_sem,seval];repeat' first|simp only[go_sem,seval,true_or,or_true,false_or,or_false,ai,iU,e7,iA,fN,gn,eN,pz,pI,gU,iF,dr,aK,AV.ren,AV.ren.renL,aI,iq,iW]|refine cP va ?_|refine cP vm ?_|(refine aj ?_)|refine oE ?_|apply xX<;>intro hc
 all_goals simp_all[ux]
theorem Gh (nm:Nat) (a b m:Bytes):jU prog 161 nm [] [.fs [.s a, .s b], .fs [.s m]] (.v (E (ux [a,b] m))) []:=by
 refine jU.w mixed call161 func161 rfl (j5.1 _ _ _ (by cbv)) (j5.2 _ _ (by cbv)) (obs:=[]) (args:=[.fs [.s a, .s b], .fs [.s m]]) (fs:=[]) (j:=none) (nw:=none) (v:= .v (E (ux [a,b] m))) (ns:=[]) (obsA:=[]) rfl ?_ (by simp) (by simp) rfl rfl (by simp[aU,AV.ren]) (by simp[AV.ren]) (by simp[fT,outs])
 have va:=aD a;have vb:=aD b;have vm:=aD m;simp only[go_sem,seval];repeat' first|simp only[go_sem,seval,true_or,or_true,false_or,or_false,ai,iU,e7,iA,fN,gn,eN,pz,pI,gU,iF,dr,aK,AV.ren,AV.ren.renL,aI,iq,iW]|refine cP va ?_|refine cP vb ?_|refine cP vm ?_|(refine aj ?_)|refine oE ?_|apply xX<;>intro hc
 all_goals simp_all[ux]
theorem SD {a m:Nat} (ha:a<(2^64)) (hm:m<(2^64)) (h0:0<m):ux [aZ a] (aZ m)=0:=by
 have:aZ m≠[]:=fun h=>by rw[gR]at h;omega
 simp[ux,vN ha,vN hm,this]
theorem HQ {a m:Nat} {e:Bytes} (ha:a<(2^64)) (he:aa e=true) (hm:m<(2^64)) (h0:0<m):ux [aZ a,e] (aZ m)=0:=by
 have:aZ m≠[]:=fun h=>by rw[gR]at h;omega
 simp[ux,vN ha,he,vN hm,this]
theorem F3 {a:Nat} (h:a<(2^64)):aF 232 [N a] (.tup [.i .u64 a, .b true]):=by
 have:=nL (aZ a);rw[vN h,aS (lN h),aP]at this;exact this
theorem Hj {a b m:Nat} (ha:a<(2^64)) (hb:b<(2^64)) (hm:m<(2^64)) (h0:0<m):aF 165 [N a,N b,N m] (N (a*b%m)):=by
 have la:=lN ha;have lb:=lN hb;have lm:=lN hm;have h1:a%m<(2^64):=dD (tI _ _) ha;have h2:b%m<(2^64):=dD (tI _ _) hb;have hq:=r8 (a%m) (b%m) h1 h2;have h3:a%m*(b%m)/(2^64)<(2^64):=(iL oC).2 (gK h1 h2);have hr:=LI (a%m*(b%m)/(2^64)) (a%m*(b%m)%(2^64)) m h0 h3 (aL _ oC) hm;have e:a%m*(b%m)/(2^64)*(2^64)+a%m*(b%m)%(2^64)=a%m*(b%m):=oO;rw[e,<-cd]at hr;have ho:=pK (a*b%m) (gj (aL _ h0) hm);have sa:=F3 ha;have sb:=F3 hb;have sm:=F3 hm;clear h3 e h1 h2;refine eW call165 func165 ?_;exact z7 @sa @sb @sm @hq @hr @ho oT
theorem kZ {a m:Nat} (ha:a<(2^64)) (hm:m<(2^64)) (h0:0<m):aF 163 [N a,N m] (N (a%m)):=by
 refine eW call163 func163 ?_;exact z1 (jC ha hm h0)
theorem Nx {a b m:Nat} (ha:a<(2^64)) (hb:b<(2^64)) (hm:m<(2^64)) (h0:0<m):aF 96 [N a,N b,N m] (.tup [N (a*b%m),E 0]):=by
 have hc:=fun nm=>Gh nm (aZ a) (aZ b) (aZ m)
 rw[HQ ha (vN hb) hm h0]at hc;refine eW call96 func96 ?_;repeat' first|simp only[go_sem,seval]|(refine aW (hc _) (by simp) ?_)|refine cP (Hj ha hb hm h0) ?_|refine oE ?_|apply xX<;>intro hc
theorem JT (e:Bytes):aF 307 [.s e] (.fc 353 [] [.pt (.agg [.s e]) 0]):=by
 refine eW call307 func307 ?_;exact z0
theorem Ej (n:Nat): ∀k,∀y∈Gk n k,y.length=1
 |0,y,h=>by cases h
 |k+1,y,h=>by
  rcases bV.1 h with rfl|h
  ·rfl
  ·exact Ej n k y h
theorem du:(.s [1]:PV)=N 1:=rfl
theorem S7 {a z m:Nat}:a^z%m*(a^z%m)%m=a^(2*z)%m:=by rw[<-cd,<-cF,qH]
theorem Wa {a z m:Nat}:a^z%m*(a^z%m)%m*(a%m)%m=a^(2*z+1)%m:=by rw[S7,<-cd,<-Nat.pow_succ]
theorem Tr {a m:Nat} {e:Bytes} (ha:a<(2^64)) (he:aa e=true) (hm:m<(2^64)) (h0:0<m):aF 224 [N a, .s e,N m] (.tup [N (a^num e%m),E 0]):=by
 have hc:=fun nm=>Gh nm (aZ a) e (aZ m)
 rw[HQ ha he hm h0]at hc;have h1:=kZ (a:=1) oC hm h0;refine eW call224 func224 ?_;simp only[go_sem,seval,du];repeat' first|simp only[go_sem,seval,du]|(refine aW (hc _) (by simp) ?_)|refine cP (kZ ha hm h0) ?_|refine cP h1 ?_|refine cP (JT e) ?_|(refine xA (JS e he) rfl (Ej _ _) ?_)|refine oE ?_|apply xX<;>intro hc
 obtain⟨n,hn⟩: ∃n,n=num e:=⟨_,rfl⟩;rw[<-hn];have hbl:n/2^cH n=0:=by
  refine iO ?_;unfold cH;split
  ·subst_vars;rename_i h;rw[h];decide
  ·rename_i h;exact tT
 refine CJ (α:=Nat) (fun k=>⟨[(3, .p 1000 0 0),(5, .p 1001 0 0),(9, .p 1019 0 0)],[(1000,⟨0,[.v (N (a%m))],false,none⟩),(1001,⟨0,[.v (N m)],false,none⟩),(1019,⟨0,[.v (N (a^(n/2^k)%m))],false,some 22⟩)],_⟩) (fun ys k=>ys=Gk n k) (cH n) (fun _=>aB _) rfl ?_ ?_ ?_
 ·(refine AS.Le.of (by first|decide|omega) ?_ ?_<;>simp[dG,dF,aO,hget,AV.bd,AV.bd.bdL,u8,ar,au,az])
  rw[hbl,Nat.pow_zero]
 ·intro k hk
  cases k with
  |succ k=>cases hk
  |zero=>
   refine xy ?_;rw[jO]
 ·intro y ys k hk R hR
  cases k with
  |zero=>cases hk
  |succ k=>
   simp only[Gk,List.cons.injEq]at hk;obtain⟨rfl,rfl⟩:=hk;obtain⟨x,hx⟩: ∃x,x=a^(n/2^(k+1))%m:=⟨_,rfl⟩;have hxm:x<m:=by rw[hx];exact aL _ h0
   have t1:=Hj (a:=x) (b:=x) oO oO hm h0;have hxx:x*x%m<m:=aL _ h0;have ham:a%m<m:=aL _ h0;have t2:=Hj (a:=x*x%m) (b:=a%m) oO oO hm h0;have hbit:=kN (x:=n) (i:=k);have hdd:n/2^(k+1)=n/2^k/2:=by rw[Nat.pow_succ,fj]
   rw[<-hx,hbit];repeat' first|simp only[go_sem,seval]|refine cP t1 ?_|refine cP t2 ?_|refine oE ?_|apply xX<;>intro hc
   ·have hb2:n/2^k=2*(n/2^(k+1))+1:=oO;refine hR k rfl _ ?_;rw[hb2,hx,Wa];exact lE
   ·have hb2:n/2^k=2*(n/2^(k+1)):=oO;refine hR k rfl _ ?_;rw[hb2,hx,S7];exact lE
theorem U2 {n:Nat} (h:n<(2^64)):aF 306 [N n] (E (n%8:Nat)):=by
 by_cases h0:n=0
 ·subst h0;refine eW call306 func306 ?_;exact oo @Cy
 ·have hc:=yQ h0;have hb:=gF n;have hne:aZ n≠[]:=fun e=>h0 (gR.1 e)
  obtain⟨r,c,hr⟩: ∃r c,aZ n=r++[c]:=⟨_,_,(Je hne).symm⟩;have hn:=aP n;rw[hr,yT]at hn;have hl:(aZ n).length=r.length+1:=by rw[hr];simp
  have hg:(aZ n).getD r.length 0=c:=by rw[hr];simp[bR]
  have hcl:=c.toNat_lt;have hlen:=lN h;have he: ∀ _:True,(((r.length+1:Nat):Int)-1).toNat=r.length:=fun _=>oO
  refine eW call306 func306 ?_;repeat' first|simp only[go_sem,seval,hc,hl,he oT,hg]|refine oE ?_|apply xX<;>intro hc
  congr 1;omega
theorem CT:(.s [2]:PV)=N 2:=rfl
theorem NS (n:Nat):(aZ n==([1]:Bytes))=decide (n=1):=xR n 1
end Go.Proofs.Tryz
namespace Go.Proofs.Tryz
open Go Go.Dom Go.RowKit Go.Shelf
structure Key where
 (name m o z s:Bytes)
 r:List Bytes
 (u h:Bytes)
def Key.pv (k:Key):PV:= .agg [.s k.name, .s k.m, .s k.o, .s k.z, .s k.s, .sl (k.r.map .s), .s k.u, .s k.h]
def rU (n:Int) (b:Bytes):List PV:=[.i .i64 n, .s b]
def Key.bases (k:Key):List (List PV):=rU 2 k.s::rU 0 k.z::rU 1 k.u::rU 1 k.h::k.r.map (rU 0)
theorem Oe {rd:Rd} (n:Int) (b:Bytes):bC (PR rd) (rU n b) [.int .i64 n, .string ⟨b.toArray⟩]:= .cons (.i _ _) (.cons (.s _) .nil)
theorem D5 (k:Key) (hk:k.r.length<1000000):WO prog 155 [.pt k.pv 0] true k.bases:=by
 refine⟨call155,?_⟩;intro w rd cvs l J Jx htr hcaps hrd hb hbx hY _ h0;obtain⟨p,us,rfl,hp,hnil⟩:=hcaps.fO;obtain rfl:=hnil.dx;obtain⟨bk,of,v5,rfl,c3,c4,c5,c6,c7,p5⟩: ∃bk of v5,p= .pointer (some ⟨bk,of,none⟩)/\rd bk (of+3)=some (.string ⟨k.z.toArray⟩)/\rd bk (of+4)=some (.string ⟨k.s.toArray⟩)/\rd bk (of+5)=some v5/\rd bk (of+6)=some (.string ⟨k.u.toArray⟩)/\rd bk (of+7)=some (.string ⟨k.h.toArray⟩)/\PR rd (.sl (k.r.map .s)) v5:=by
  cases hp with
  |pt x o vs bk of h1 hl hr h=>
   have hv: ∀i,i<8-> ∃v,vs[i]?=some v:=fun i hi=>⟨_,bG (by have:vs.length=8:=hl.symm;omega)⟩
   obtain⟨a3,b3⟩:=hv 3 oC;obtain⟨a4,b4⟩:=hv 4 oC;obtain⟨a5,b5⟩:=hv 5 oC;obtain⟨a6,b6⟩:=hv 6 oC;obtain⟨a7,b7⟩:=hv 7 oC;have q3:=h 3 _ _ rfl b3;have q4:=h 4 _ _ rfl b4;have q5:=h 5 _ _ rfl b5;have q6:=h 6 _ _ rfl b6;have q7:=h 7 _ _ rfl b7
   cases q3;cases q4;cases q6;cases q7
   exact⟨bk,of,a5,rfl,hr 3 _ b3,hr 4 _ b4,hr 5 _ b5,hr 6 _ b6,hr 7 _ b7,q5⟩
 refine callsIn_of_wp func155 rfl oT ?_;simp only[Tryz.ntmps155,kL,List.length_cons,List.length_nil,Nat.reduceAdd,Nat.reduceSub,Dr,Array.replicate_zero,Dk,Dd,List.nil_append,List.cons_append];have d4:=hrd _ _ h0 _ _ _ c4;obtain⟨fn,tmps,assign,body,hy,hR⟩:=hY (rU 2 k.s) _ _ w h0 (Oe _ _)
 gi_wp2
 refine⟨rfl,hR.mono ?_⟩;rintro x W1 (⟨rfl,hJ1⟩|⟨rfl,hJx⟩)
 case inr=>(gi_wp2;repeat (refine⟨fun _ h=>(by cases h),?_⟩;gi_wp2));refine bodyPost_ret (results_none rfl _ _ _) rfl ?_;exact⟨⟨_,rfl⟩, .inr hJx⟩
 have d3:=hrd _ _ hJ1 _ _ _ c3;obtain⟨fn,tmps,assign,body,hy,hR⟩:=hY (rU 0 k.z) _ _ W1 hJ1 (Oe _ _)
 gi_wp2
 refine⟨rfl,hR.mono ?_⟩;rintro x W2 (⟨rfl,hJ2⟩|⟨rfl,hJx⟩)
 case inr=>(gi_wp2;repeat (refine⟨fun _ h=>(by cases h),?_⟩;gi_wp2));refine bodyPost_ret (results_none rfl _ _ _) rfl ?_;exact⟨⟨_,rfl⟩, .inr hJx⟩
 have d6:=hrd _ _ hJ2 _ _ _ c6;obtain⟨fn,tmps,assign,body,hy,hR⟩:=hY (rU 1 k.u) _ _ W2 hJ2 (Oe _ _)
 gi_wp2
 refine⟨rfl,hR.mono ?_⟩;rintro x W3 (⟨rfl,hJ3⟩|⟨rfl,hJx⟩)
 case inr=>(gi_wp2;repeat (refine⟨fun _ h=>(by cases h),?_⟩;gi_wp2));refine bodyPost_ret (results_none rfl _ _ _) rfl ?_;exact⟨⟨_,rfl⟩, .inr hJx⟩
 have d7:=hrd _ _ hJ3 _ _ _ c7;obtain⟨fn,tmps,assign,body,hy,hR⟩:=hY (rU 1 k.h) _ _ W3 hJ3 (Oe _ _)
 gi_wp2
 refine⟨rfl,hR.mono ?_⟩;rintro x W4 (⟨rfl,hJ4⟩|⟨rfl,hJx⟩)
 case inr=>(gi_wp2;repeat (refine⟨fun _ h=>(by cases h),?_⟩;gi_wp2));refine bodyPost_ret (results_none rfl _ _ _) rfl ?_;exact⟨⟨_,rfl⟩, .inr hJx⟩
 have d5:=hrd _ _ hJ4 _ _ _ c5;clear d3 d4 d6 d7 hJ1 hJ2 hJ3 h0;obtain⟨ad,cap,rfl,hel⟩: ∃ad cap,v5= .slice ad k.r.length cap/\ ∀i (hi:i<k.r.length),∃b2 o2,ad=some ⟨b2,o2,none⟩/\rd b2 (o2+i)=some (.string ⟨(k.r[i]).toArray⟩):=by
  have hfm:(k.r.map PV.s).flatMap PV.cells=k.r.map PV.s:=by
   generalize k.r=r
   induction r with
   |nil=>rfl
   |cons x r ih=>simp_all[PV.cells]
  generalize hL:k.r.map PV.s=L at p5 hfm
  cases p5 with
  |sl0=>
   have:k.r=[]:=by simpa using hL
   exact⟨none,0,by rw[this];rfl,fun i hi=>by rw[this]at hi;cases hi⟩
  |sle a cap=>
   have:k.r=[]:=by simpa using hL
   exact⟨some a,cap,by rw[this];rfl,fun i hi=>by rw[this]at hi;cases hi⟩
  |sl _ z vs b2 o2 cap hc hz h1 hl hr h=>
   refine⟨some ⟨b2,o2,none⟩,cap,by rw[<-hL];simp,fun i hi=>⟨b2,o2,rfl,?_⟩⟩
   rw[hfm]at hl h;have hiv:i<vs.length:=by rw[<-hl,<-hL];simpa using hi
   have e1:vs[i]?=some vs[i]:=bG hiv;have:=h i (.s k.r[i]) vs[i] (by rw[<-hL];simp[hi]) e1
   rw[hr i _ e1];generalize vs[i]=q at this
   cases this;rfl
 gi_wp2
 gi_loopw [4,34] (fun q p wr=> ∃i:Nat,p= .int .i64 (i:Int)/\i<=k.r.length/\J ((k.r.drop i).map (rU 0)) wr) (fun q p wr=>match p with| .int _ n=>k.r.length-n.toNat| _=>0)
 case atStart=>
  exact⟨0,rfl,aT _,hJ4⟩
 case round=>
  obtain⟨i,rfl,hi,hJ⟩:=hrel
  by_cases hlt:i<k.r.length
  ·obtain⟨b2,o2,rfl,hc⟩:=hel i hlt;have hcell:=hrd _ _ hJ _ _ _ hc;rw[jL hlt,br]at hJ;obtain⟨fn,tmps,assign,body,hy,hR⟩:=hY (rU 0 k.r[i]) _ _ wr hJ (Oe _ _);have h1:decide ((i:Int)<(k.r.length:Int))=true:=by simp;omega
   gi_wp2
   refine⟨rfl,hR.mono ?_⟩;rintro x W5 (⟨rfl,hJ5⟩|⟨rfl,hJx⟩)
   ·have hw3:IntKind.i64.wrap ((i:Int)+1)=(i:Int)+1:=IntWalk.i64_in _ oO
    gi_wp2
    go_roundw
    case rel=>exact⟨i+1,rfl,oO,hJ5⟩
    case measure=>simp;omega
   ·gi_wp2
    refine bodyPost_ret (results_none rfl _ _ _) rfl ?_;exact⟨⟨_,rfl⟩, .inr hJx⟩
  ·obtain rfl:i=k.r.length:=oO;rw[dO]at hJ;have h1:decide ((k.r.length:Int)<(k.r.length:Int))=false:=by simp
   gi_wp2
   go_end0
   exact⟨⟨_,rfl⟩, .inl hJ⟩
end Go.Proofs.Tryz
namespace Go.Dom
noncomputable def dU (m x:Nat) (ng:Bool) (e:Nat):Nat:=(if ng then iQ x m else x)^e%m
def eK (m x:Nat):Prop:= ∃i,i<m/\x*i%m=1%m
theorem eK.inv {m x:Nat} (h:eK m x):iQ x m<m/\x*iQ x m%m=1%m:=by
 obtain⟨i,h1,h2⟩:=h;rw[iR h1 h2];exact⟨h1,h2⟩
theorem eK.Xy {m x:Nat} (h:eK m x) (hm:0<m):eK m (iQ x m):=
 ⟨x%m,aL _ hm,by rw[lL,bw];exact h.inv.2⟩
theorem eK.pow {m x:Nat} (h:eK m x) (hm:0<m) (e:Nat):eK m (x^e%m)/\iQ (x^e%m) m=iQ x m^e%m:=by
 obtain⟨h1,h2⟩:=h.inv;have key:x^e%m*(iQ x m^e%m)%m=1%m:=by
  rw[<-cd,<-pq,gL,h2,<-gL,lO]
 have hl:iQ x m^e%m<m:=aL _ hm;exact⟨⟨_,hl,key⟩,iR hl key⟩
theorem eK.inv2 {m x:Nat} (h:eK m x) (hm:0<m):iQ (iQ x m) m=x%m:=
 iR (aL _ hm) (by rw[lL,bw];exact h.inv.2)
theorem eK.dU {m x:Nat} (h:eK m x) (hm:0<m) (ng:Bool) (e:Nat):eK m (Dom.dU m x ng e):=by
 unfold Dom.dU;cases ng
 ·exact(h.pow hm e).1
 ·exact((h.Xy hm).pow hm e).1
theorem eK.mul {m x y:Nat} (h:eK m x) (g:eK m y) (hm:0<m):eK m (x*y%m):=by
 obtain⟨i,h1,h2⟩:=h;obtain⟨j,g1,g2⟩:=g;refine⟨i*j%m,aL _ hm,?_⟩;rw[<-cd];have e:x*y*(i*j)=(x*i)*(y*j):=by
  rw[cr,cr];congr 1;rw[<-cr,bw y i,cr]
 rw[e,cd,h2,g2,<-cd,jP]
theorem m9 (m x a b:Nat):(x^a%m)^b%m=x^(a*b)%m:=by rw[<-gL,<-gX]
theorem KG {m x:Nat} (h:eK m x) (hm:0<m) (n1 n2:Bool) (a b:Nat):dU m (dU m x n1 a) n2 b=dU m x (n1 !=n2) (a*b):=by
 cases n1<;>cases n2
 ·simp only[dU,bQ,ak,qI,m9]
 ·have:=(h.pow hm a).2;simp only[dU,bQ,ak,aA,this,m9,Bool.bne_true,db]
 ·simp only[dU,bQ,ak,aA,m9,Bool.bne_false]
 ·have h1:=((h.Xy hm).pow hm a).2;rw[h.inv2 hm]at h1;simp only[dU,aA,qI,bQ,ak,h1];rw[m9,<-gL]
theorem uM (m x:Nat) (n:Bool):dU m x n 0=1%m:=by simp[dU]
theorem vR {m x:Nat} (hm:0<m) (h:Nat.gcd x m=1):eK m x:=by
 have key: ∀(n a b:Nat),b<=n-> ∃X Y:Int,(a:Int)*X+b*Y=Nat.gcd a b:=by
  intro n
  induction n with
  |zero=>
   intro a b hb;obtain rfl:b=0:=by omega
   exact⟨1,0,by simp⟩
  |succ n ih=>
   intro a b hb;rcases kQ b with rfl|h0
   ·exact⟨1,0,by simp⟩
   ·obtain⟨X,Y,e⟩:=ih b (a%b) (by have:=aL a h0;omega)
    refine⟨Y,X-(a/b:Nat)*Y,?_⟩;have hg:Nat.gcd b (a%b)=Nat.gcd a b:=by rw[lh a b,o5 b a,lh]
    rw[<-hg,<-e];have e1:(a:Int)=b*(a/b:Nat)+(a%b:Nat):=by
     have:((b*(a/b)+a%b:Nat):Int)=(a:Int):=by rw[iY]
     rw[<-this];simp
    generalize a/b=q at*;generalize a%b=t at*;rw[qB,e1,Int.add_mul];have e3:(b:Int)*q*Y=b*(q*Y):=pg ..;omega
 obtain⟨X,Y,e⟩:=key m x m (aB _);rw[h]at e;refine⟨(X%(m:Int)).toNat,?_,?_⟩
 ·have:=qE X (show(0:Int)<m by omega)
  have:=oZ X (show(m:Int)≠0 by omega)
  omega
 ·have h0:=oZ X (show(m:Int)≠0 by omega)
  have e2:((x*(X%(m:Int)).toNat:Nat):Int)%m=(1:Int)%m:=by
   rw[Int.natCast_mul,o9 h0,Int.mul_emod,Int.emod_emod_of_dvd _ (Int.dvd_refl _),<-Int.mul_emod];have:(x:Int)*X=1+m*(-Y):=by rw[qw];simp at e;omega
   rw[this,C4]
  exact_mod_cast e2
end Go.Dom
namespace Go.Proofs.Tryz
open Go Go.Dom
theorem FL:(2^64)<=dP:=by unfold dP;decide+kernel
theorem wK {a m:Nat} (ha:a<dP) (hm:m<dP) (h0:0<m):aF 292 [N a,N m] (N (a%m)):=by
 have hd:=zq ha hm h0;refine eW call292 func292 ?_;exact z1 @hd
theorem X3 (a b m:Bytes):aF 204 [.sl [.s a, .s b, .s m]] (E (ux [a,b] m)):=by
 have va:=aQ a;have vb:=aQ b;have vm:=aQ m;refine eW call204 func204 ?_;repeat' first|simp only[go_sem,seval,iq,iW]|refine cP va ?_|refine cP vb ?_|refine cP vm ?_|(refine aj ?_)|refine oE ?_|apply xX<;>intro hc
 all_goals simp_all[ux]
theorem IV {a b m:Nat} (ha:a<(2^64)) (hb:b<(2^64)) (hm:m<(2^64)) (h0:0<m):aF 294 [N a,N b,N m] (N (a*b%m)):=by
 have w2:=FL;have hs:=nY (aZ m);rw[vB (show m<dP by omega),aS (lN hm),aP]at hs
 have d1:=wK (a:=a) (m:=m) oO oO h0;have d2:=wK (a:=b) (m:=m) oO oO h0;have l1:=aL a h0;have l2:=aL b h0;have s1:=nY (aZ (a%m));rw[vB (show a%m<dP by omega),aS (lN (show a%m<(2^64) by omega)),aP]at s1
 have s2:=nY (aZ (b%m));rw[vB (show b%m<dP by omega),aS (lN (show b%m<(2^64) by omega)),aP]at s2
 have hmul:a%m*(b%m)<(2^64)*(2^64):=gK oO oO;have hlm:(2^64)*(2^64)<=dP:=by unfold dP;decide+kernel
 have hp:=N9 (a:=a%m) (b:=b%m) oO oO oO;have d3:=wK (a:=a%m*(b%m)) (m:=m) oO oO h0;rw[<-cd]at d3;have hl3:=aL (a*b) h0
 by_cases hsm:m<2147483648
 ·have ho:=oN (a*b%m) oO;have hlt:a%m*(b%m)<(2^64):=by
   have:a%m*(b%m)<2147483648*2147483648:=gK oO oO;omega
  have hw: ∀ _:True,IntKind.u64.wrap (((a%m:Nat):Int)*((b%m:Nat):Int))=((a%m*(b%m):Nat):Int):=fun _=>by
   rw[<-Int.natCast_mul,IntWalk.u64_in _ oO]
  have hmm: ∀ _:True,((a%m*(b%m):Nat):Int).tmod (m:Int)=((a*b%m:Nat):Int):=fun _=>by
   rw[cd];rfl
  clear hp d3 hmul hlm;generalize a%m=u at*;generalize b%m=v at*;refine eW call294 func294 ?_;repeat' first|simp only[go_sem,seval,aA,hw oT,hmm oT]|refine cP hs ?_|refine cP d1 ?_|refine cP d2 ?_|refine cP s1 ?_|refine cP s2 ?_|refine cP ho ?_|refine oE ?_|apply xX<;>intro hc
 ·clear hmul hlm;refine eW call294 func294 ?_;repeat' first|simp only[go_sem,seval,aA]|refine cP hs ?_|refine cP d1 ?_|refine cP d2 ?_|refine cP hp ?_|refine cP d3 ?_|refine oE ?_|apply xX<;>intro hc
theorem KO {a m:Nat} {e:Bytes} (ha:a<(2^64)) (he:aa e=true) (hm:m<(2^64)) (h0:0<m):aF 205 [N a, .s e,N m] (N (a^num e%m)):=by
 have w2:=FL;have ho:=oN 1 oC;have d1:=wK (a:=1) (m:=m) oO oO h0;have hb:=KL he;have hbi:=fun i hi=>CG he i hi
 obtain⟨n,hn⟩: ∃n,n=num e:=⟨_,rfl⟩;have hbl:cH n<1000000:=by
  have h1:n<2^1024:=by
   rw[hn];refine ba (cu e) ?_;have le:=eu he;exact fV (cW oC le) (by decide+kernel)
  by_cases hz:n=0
  ·rw[hz];decide
  ·obtain⟨g1,g2⟩:=sh hz;have:=(qu (by decide:1<2)).1 (dD g1 h1)
   omega
 rw[<-hn]at hb hbi⊢;have hb2:n/2^cH n=0:=iO (si n);clear hn;refine eW call205 func205 ?_;repeat' first|simp only[go_sem,seval]|refine cP ho ?_|refine cP d1 ?_|refine cP hb ?_|refine oE ?_|apply xX<;>intro hc
 refine aq (α:=Nat) (fun k=>k) (fun k=>⟨[(0, .v (N a)),(1, .v (.s e)),(2, .v (N m)),(7, .v (N (a^(n/2^k)%m))),(8, .v (.i .i64 ((k:Int)-1)))],[],_⟩) (fun k=>k<=cH n) (cH n) (fun _=>aB _) (aB _) ?_ ?_
 ·(refine AS.Le.of (by first|decide|omega) ?_ ?_<;>simp[dG,dF,aO,hget,AV.bd,AV.bd.bdL,u8,ar,au,az])
  rw[hb2,Nat.pow_zero]
 ·intro k hk R hR
  cases k with
  |zero=>
   refine xy ?_;rw[jO]
  |succ k=>
   obtain⟨x,hx⟩: ∃x,x=a^(n/2^(k+1))%m:=⟨_,rfl⟩;have hxm:x<m:=by rw[hx];exact aL _ h0
   have hxx:x*x%m<m:=aL _ h0;have t1:=IV (a:=x) (b:=x) oO oO hm h0;have t2:=IV (a:=x*x%m) (b:=a) oO ha hm h0;have hbit:=hbi k oO;rw[kN]at hbit;have hdd:=EG n k;have hw0: ∀ _:True,((k+1:Nat):Int)-1=(k:Int):=fun _=>oO
   have hge0: ∀ _:True,decide ((k:Int)>=0)=true:=fun _=>by simp
   rw[<-hx];repeat' first|simp only[go_sem,seval,hw0 oT,hge0 oT]|refine cP t1 ?_|refine cP t2 ?_|refine cP hbit ?_|refine oE ?_|apply xX<;>intro hc
   ·have ez:x*x%m*a%m=a^(n/2^k)%m:=by
     have e3:x*x%m=a^(n/2^(k+1))*a^(n/2^(k+1))%m:=by rw[hx,<-cd]
     rw[e3,lj,<-cF,<-Nat.pow_succ];congr 2;omega
    refine hR k oO oO _ ?_;rw[<-ez];exact lE
   ·have ez:x*x%m=a^(n/2^k)%m:=by
     rw[hx,<-cd,<-cF];congr 2;omega
    refine hR k oO oO _ ?_;rw[<-ez];exact lE
theorem S2 {a m:Nat} {e:Bytes} (ha:a<(2^64)) (he:aa e=true) (hm:m<(2^64)) (h0:0<m):aF 106 [N a, .s e,N m] (.tup [N (a^num e%m),E 0]):=by
 have hc:=X3 (aZ a) e (aZ m);rw[HQ ha he hm h0]at hc;have hr:=KO ha he hm h0;refine eW call106 func106 ?_;exact z2 @hc @hr
end Go.Proofs.Tryz
namespace Go.Dom
def pp (l:List (Nat×Nat)) (k:Nat):Nat:=l.foldr (fun p a=>p.1^(p.2/2^k)*a) 1
def pb (l:List (Nat×Nat)) (k:Nat):Nat:=l.foldr (fun p a=>p.1^(p.2/2^k%2)*a) 1
theorem wI (p:Nat×Nat) (l:List (Nat×Nat)) (k:Nat):pp (p::l) k=p.1^(p.2/2^k)*pp l k:=rfl
theorem CB (p:Nat×Nat) (l:List (Nat×Nat)) (k:Nat):pb (p::l) k=p.1^(p.2/2^k%2)*pb l k:=rfl
theorem Rk (l:List (Nat×Nat)) (p:Nat×Nat) (k:Nat):pb (l++[p]) k=pb l k*p.1^(p.2/2^k%2):=by
 induction l with
 |nil=>simp[pb]
 |cons q l ih=>rw[List.cons_append,CB,CB,ih,cr]
theorem Rl (l:List (Nat×Nat)) (k:Nat):pp l k=pp l (k+1)*pp l (k+1)*pb l k:=by
 induction l with
 |nil=>rfl
 |cons p l ih=>
  rw[wI,wI,CB,ih];have e:p.2/2^k=p.2/2^(k+1)+p.2/2^(k+1)+p.2/2^k%2:=by
   have:p.2/2^(k+1)=p.2/2^k/2:=by rw[Nat.pow_succ,fj]
   omega
  rw[e,cF,cF,<-e];generalize p.1^(p.2/2^(k+1))=a;generalize p.1^(p.2/2^k%2)=b;generalize pp l (k+1)=c;generalize pb l k=d;simp only[cr,DA,bw]
theorem VD {l:List (Nat×Nat)} {k:Nat} (h: ∀p∈l,p.2<2^k):pp l k=1:=by
 induction l with
 |nil=>rfl
 |cons p l ih=>
  rw[wI,ih fun q hq=>h q (jR _ hq),iO (h p (tF ..))];rfl
noncomputable def Ml (M:Nat) (x:Nat) (e:Bool×Bytes):Nat:=if e.1 then iQ x M else x
noncomputable def CC (M:Nat) (l:List (Nat×(Bool×Bytes))):Nat:=pp (l.map fun p=>(Ml M p.1 p.2,num p.2.2)) 0%M
theorem CD (M:Nat):CC M []=1%M:=rfl
theorem NZ (p:Nat×Nat) (l:List (Nat×Nat)):pp (p::l) 0=p.1^p.2*pp l 0:=by rw[wI,Nat.pow_zero,jO]
theorem pW (M:Nat) (x:Nat) (e:Bool×Bytes) (l:List (Nat×(Bool×Bytes))):CC M ((x,e)::l)=dU M x e.1 (num e.2)*CC M l%M:=by
 unfold CC dU;rw[br,NZ,<-cd];rfl
theorem II (M:Nat) (x:Nat) (e:Bool×Bytes):CC M [(x,e)]=dU M x e.1 (num e.2):=by
 rw[pW,CD,lL,eH];unfold dU;rw[dN]
noncomputable def gW (m x:Nat) (z:Int):Nat:=dU m x (decide (z<0)) z.natAbs
theorem oK {m x y:Nat} (h:x*y%m=1%m) (n k:Nat):x^(n+k)*y^k%m=x^n%m:=by
 rw[cF,cr,<-pq,cd,gL (x*y) k m,h,<-gL,lO,<-cd,eH]
theorem mZ (m x:Nat) (n:Nat):gW m x (n:Int)=x^n%m:=by
 unfold gW dU;rw[b9 (by omega)];simp
theorem mD {m x:Nat} (n:Nat):gW m x (-(n:Int))=iQ x m^n%m:=by
 unfold gW dU
 by_cases h:n=0
 ·subst h;simp
 ·rw[aS (by omega)];simp
theorem EZ {m x:Nat} (h:eK m x) (hm:0<m) (a b:Int):gW m x a*gW m x b%m=gW m x (a+b):=by
 obtain⟨h1,h2⟩:=h.inv;have h3:iQ x m*x%m=1%m:=by rw[bw];exact h2
 rcases Int.eq_nat_or_neg a with⟨n,rfl|rfl⟩<;>rcases Int.eq_nat_or_neg b with⟨k,rfl|rfl⟩
 ·rw[mZ,mZ,<-cd,<-cF,<-mZ];simp
 ·rw[mZ,mD,<-cd];rcases xq k n with hk|hk
  ·obtain⟨d,rfl⟩:=xb hk;rw[gJ k d,oK h2,<-mZ];congr 1;omega
  ·obtain⟨d,rfl⟩:=xb hk;rw[bw,gJ n d,oK h3,<-mD];congr 1;omega
 ·rw[mZ,mD,<-cd];rcases xq k n with hk|hk
  ·obtain⟨d,rfl⟩:=xb hk;rw[gJ k d,oK h3,<-mD];congr 1;omega
  ·obtain⟨d,rfl⟩:=xb hk;rw[bw,gJ n d,oK h2,<-mZ];congr 1;omega
 ·rw[mD,mD,<-cd,<-cF,<-mD];congr 1;omega
theorem Bk (m x:Nat):gW m x 0=1%m:=uM _ _ _
theorem nW {m x:Nat} (h:eK m x) (hm:0<m) (a b:Int):gW m (gW m x a) b=gW m x (a*b):=by
 unfold gW;rw[KG h hm,qx]
 by_cases h0:a.natAbs*b.natAbs=0
 ·rw[h0,uM,uM]
 ·congr 1;have ha:a≠0:=fun e=>h0 (by simp[e])
  have hb:b≠0:=fun e=>h0 (by simp[e])
  rw[cI];simp only[tZ,ne_eq,jm,bc];rcases Int.lt_or_gt_of_ne ha with h1|h1<;>rcases Int.lt_or_gt_of_ne hb with h2|h2
  ·have:=Int.mul_pos_of_neg_of_neg h1 h2;generalize a*b=c at*;omega
  ·have:=Int.mul_neg_of_neg_of_pos h1 h2;generalize a*b=c at*;omega
  ·have:=Int.mul_neg_of_pos_of_neg h1 h2;generalize a*b=c at*;omega
  ·have:=Int.mul_pos h1 h2;generalize a*b=c at*;omega
theorem Nl {m x y:Nat} (h:eK m x) (g:eK m y) (hm:0<m):iQ (x*y%m) m=iQ x m*iQ y m%m:=by
 refine iR (aL _ hm) ?_;rw[<-cd,show x*y*(iQ x m*iQ y m)=(x*iQ x m)*(y*iQ y m) by rw[cr,cr];congr 1;rw[<-cr,bw y,cr],cd,h.inv.2,g.inv.2,<-cd,jP]
theorem NV {m x y:Nat} (h:eK m x) (g:eK m y) (hm:0<m) (z:Int):gW m (x*y%m) z=gW m x z*gW m y z%m:=by
 unfold gW dU
 cases decide (z<0)
 ·simp only[bQ,ak];rw[<-gL,pq,cd]
 ·simp only[aA];rw[Nl h g hm,<-gL,pq,cd]
theorem BD {m x:Nat} (h:eK m x) (hm:0<m) (z:Int):eK m (gW m x z):=h.dU hm _ _
theorem E4 (m x:Nat) (z:Int):gW m x z%m=gW m x z:=dN _ _
noncomputable def y7 (m:Nat):List (Nat×Int)->Nat
 |[]=>1%m
 |p::l=>gW m p.1 p.2*y7 m l%m
theorem zM {m:Nat} (hm:0<m):eK m (1%m):=⟨1%m,aL _ hm,by rw[<-cd,jP]⟩
theorem OU {m:Nat} (hm:0<m) {l:List (Nat×Int)} (h: ∀p∈l,eK m p.1):eK m (y7 m l):=by
 induction l with
 |nil=>exact zM hm
 |cons p l ih=>exact(BD (h p (.head _)) hm _).mul (ih fun q hq=>h q (.tail _ hq)) hm
variable {α:Type} {m:Nat} (b:α->Nat)
theorem Rn (hm:0<m) (e f:α->Int) {l:List α} (h: ∀t∈l,eK m (b t)):y7 m (l.map fun t=>(b t,e t))*y7 m (l.map fun t=>(b t,f t))%m=y7 m (l.map fun t=>(b t,e t+f t)):=by
 induction l with
 |nil=>simp only[bH,y7];rw[<-cd,jP]
 |cons t l ih=>
  simp only[br,y7];rw[<-EZ (h t (.head _)) hm,<-ih fun q hq=>h q (.tail _ hq),<-cd,<-cd]
  congr 1;simp only[cr,DA]
theorem Ro (hm:0<m) (e:α->Int) (z:Int) {l:List α} (h: ∀t∈l,eK m (b t)):gW m (y7 m (l.map fun t=>(b t,e t))) z=y7 m (l.map fun t=>(b t,e t*z)):=by
 induction l with
 |nil=>
  simp only[bH,y7];have:=nW (zM hm) hm 0 z
  rwa[Int.zero_mul,Bk]at this
 |cons t l ih=>
  have hl: ∀q∈l,eK m (b q):=fun q hq=>h q (.tail _ hq)
  simp only[br,y7];rw[NV (BD (h t (.head _)) hm _) (OU hm fun p hp=>by
   obtain⟨q,hq,rfl⟩:=cG.1 hp;exact hl q hq) hm,nW (h t (.head _)) hm,ih hl]
theorem KH {e f:α->Int} {l:List α} (h: ∀t∈l,gW m (b t) (e t)=gW m (b t) (f t)):y7 m (l.map fun t=>(b t,e t))=y7 m (l.map fun t=>(b t,f t)):=by
 induction l with
 |nil=>rfl
 |cons t l ih=>
  simp only[br,y7];rw[h t (.head _),ih fun q hq=>h q (.tail _ hq)]
theorem NW {x o:Nat} (hx:eK m x) (hm:0<m) (ho:x^o%m=1%m) {a c:Int} (h:(o:Int)∣a-c):gW m x a=gW m x c:=by
 obtain⟨k,hk⟩:=h;have e:a=c+o*k:=by omega
 have h1:gW m x (o*k)=1%m:=by
  rw[<-nW hx hm,mZ,ho];have:=nW (zM hm) hm 0 k
  rwa[Int.zero_mul,Bk]at this
 rw[e,<-EZ hx hm,h1,lL,eH,E4]
theorem Oi (hm:0<m) {l:List α} (h: ∀t∈l,eK m (b t)) (w s r:α->Int) (c:Int) (hr: ∀t∈l,gW m (b t) (r t)=gW m (b t) (s t+c*w t)):
  gW m (y7 m (l.map fun t=>(b t,w t))) (-c)*y7 m (l.map fun t=>(b t,r t))%m=y7 m (l.map fun t=>(b t,s t)):=by
 rw[Ro b hm w (-c) h,KH b hr,Rn b hm _ _ h];congr 2
 funext t
 congr 1;rw[qw,tG];omega
theorem N0 (hm:0<m) (e:α->Int) {l:List α} (x:Nat) (hx:x%m=x):l.foldl (fun y t=>y*gW m (b t) (e t)%m) x=x*y7 m (l.map fun t=>(b t,e t))%m:=by
 induction l generalizing x with
 |nil=>simp only[List.foldl_nil,bH,y7];rw[lL,eH,hx]
 |cons t l ih=>
  simp only[List.foldl_cons,br,y7];rw[ih _ (dN _ _),lj,lL,cr]
theorem Rp (l:List (Nat×Int)) (g:Nat×Int->Nat×(Bool×Bytes)) (hg: ∀p,g p=(p.1,(decide (p.2<0),aZ p.2.natAbs))):CC m (l.map g)=y7 m l:=by
 induction l with
 |nil=>rfl
 |cons p l ih=>rw[br,hg,pW,ih,y7,aP];rfl
