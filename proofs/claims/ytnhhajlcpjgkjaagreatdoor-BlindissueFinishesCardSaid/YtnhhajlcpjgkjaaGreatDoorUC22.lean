/- Part of the proof. -/
import Derived.Test.YtnhhajlcpjgkjaaGreatDoorUC21
import Derived.RangeFuncKeeps
import Derived.RangeFuncLeaves
import Derived.Shelf.Abstract
import Derived.WalkKit
import Derived.OwnWalkIn
import Derived.TacticsInMore
import Derived.LoopNIn
import Derived.LoopIn
set_option linter.all false
set_option maxHeartbeats 8000000
set_option maxRecDepth 100000
namespace Go.Proofs.Tryz
open Go Go.Dom
variable {a b n:Nat}
theorem ua {a b:Bytes} (ha:aa a=true) (hb:aa b=true) (h0:0<num b) (h:a.length<=8\/num a<num b):aE 288 [.s a, .s b] (.tup [.s (bR (num a/num b)), .s (bR (num a%num b))]):=by
 have hc:=oe (bG ha) (bG hb)
 by_cases hlt:num a<num b
 ·have e:aZ (num a) (num b)= -1:=by simp[aZ,hlt]
  rw[e]at hc;have e1:bR (num a/num b)=[]:=by rw[ir hlt];rfl
  have e2:bR (num a%num b)=a:=by rw[bw hlt];exact fm ha
  refine eW call288 func288 ?_;exact lF (aN @e1 @e2) @hc
 ·have la:a.length<=8:=h.resolve_right hlt;have lb:b.length<=8:=by
   rcases iN a.length b.length with g|g
   ·have:=ix (a:=a) (bG hb) g;omega
   ·omega
  have sa:=nG a;have sb:=nG b;rw[ha,cj,aV la]at sa;rw[hb,cj,aV lb]at sb;have na:=dO la;have nb:=dO lb;have hc':0<=aZ (num a) (num b):=by unfold aZ;split<;>(try split)<;>omega
  have hq:num a/num b<(2^64):=eu (eT _ _) na;have hr:num a%num b<(2^64):=eu (tA _ _) na;refine eW call288 func288 ?_;repeat' first|simp only[go_sem,seval,az,uw,bw hq]|refine cP hc ?_|refine cP sa ?_|refine cP sb ?_|refine cP (pz _ hq) ?_|refine cP (pz _ hr) ?_|refine oE ?_|apply xX<;>intro hc
def sC (a b:Bytes):Bytes×Bytes×Int:=if aa a&&aa b then(if b=[]then([],[],11)else(bR (num a/num b),bR (num a%num b),0))else([],[],3)
theorem mR {b:Bytes} (h:Canon b) (h0:b≠[]):0<num b:=b9 (gT oC) (nI h h0)
theorem IN (a b:Bytes) (h:aa a=true->aa b=true->b≠[]->a.length<=8\/num a<num b):aE 162 [.s a, .s b] (.tup [.s (sC a b).1, .s (sC a b).2.1,E (sC a b).2.2]):=by
 by_cases hv:aa a=true/\aa b=true
 case neg=>
  refine eW call162 func162 ?_;repeat' first|simp only[go_sem,seval]|refine cP (aG _) ?_|refine oE ?_|apply xX<;>intro hc
  all_goals simp_all[sC]
 obtain⟨hva,hvb⟩:=hv
 by_cases hb:b=[]
 ·subst hb;refine eW call162 func162 ?_;repeat' first|simp only[go_sem,seval]|refine cP (aG _) ?_|refine oE ?_|apply xX<;>intro hc
  all_goals simp_all[sC]
 ·have hp:=mR (bG hvb) hb;refine eW call162 func162 ?_;repeat' first|simp only[go_sem,seval]|refine cP (aG _) ?_|refine cP (ua hva hvb hp (h hva hvb hb)) ?_|refine oE ?_|apply xX<;>intro hc
  all_goals simp_all[sC]
abbrev N (n:Nat):PV:= .s (bR n)
theorem vN (h:n<(2^64)):aa (bR n)=true:=jY (iM h (by decide+kernel))
theorem lN (h:n<(2^64)):(bR n).length<=8:=n8.2 h
theorem jf (ha:a<(2^64)) (hb:b<(2^64)) (h0:0<b):aE 162 [N a,N b] (.tup [N (a/b),N (a%b),E 0]):=by
 have:=IN (bR a) (bR b) (fun _ _ _=> .inl (lN ha))
 have e:bR b≠[]:=fun h=>by rw[gA]at h;omega
 simpa only[sC,vN ha,vN hb,cX,az,e,ar,aY]using this
theorem LM (ha:a<(2^64)) (hb:b<(2^64)) (h0:0<b):aE 288 [N a,N b] (.tup [N (a/b),N (a%b)]):=by
 have:=ua (vN ha) (vN hb) (by rw[aY];exact h0) (.inl (lN ha))
 simpa only[aY]using this
theorem zP:(bR 0==([]:Bytes))=true:=rfl
theorem pK (h:n≠0):(bR n==([]:Bytes))=false:=by
 rw[ey];intro e;exact h (gA.1 e)
theorem xB (m n:Nat):(bR m==bR n)=decide (m=n):=by
 rw[dk];simp[vR]
theorem Wo (ha:a<(2^64)) (hb:b<(2^64)):aE 165 [N a,N b] (.tup [N (Nat.gcd a b),E 0]):=by
 have va:=aG (bR a);have vb:=aG (bR b);rw[vN ha]at va;rw[vN hb]at vb;refine eW call165 func165 ?_;refine zl2 @va @vb ?_;refine ak (α:=Nat×Nat) (fun x=>x.2) (fun x=>⟨[(0, .v (N x.1)),(1, .v (N x.2))],[],_⟩) (fun x=>x.1<(2^64)/\x.2<(2^64)/\Nat.gcd x.1 x.2=Nat.gcd a b) (a,b) (fun _=>aD _) ⟨ha,hb,rfl⟩ ?_ ?_
 ·exact lE
 ·rintro⟨x,y⟩ ⟨hx,hy,hg⟩ R hR;simp only at hx hy hg
  by_cases h0:y=0
  ·subst h0;refine eC @zP ?_;rw[<-hg,CO]
  ·have e:=pK h0;have hd:=LM hx hy oO;refine jd @e @hd ?_;have hm:x%y<y:=aP _ oO;refine hR (y,x%y) ⟨hy,by show x%y< _;omega,?_⟩ hm _ ?_
   ·show Nat.gcd y (x%y)= _;rw[<-hg,j4 x y,nf y x,j4]
   ·exact lE
theorem nn:(([]:Bytes)==[])=true:=rfl
theorem cn (c:UInt8) (r:Bytes):((c::r:Bytes)==[])=false:=rfl
def cZ (n:Nat):Nat:=if n=0 then 0 else n.log2+1
theorem vQ {a:Bytes} (h:aa a=true):aE 95 [.s a] (E (cZ (num a))):=by
 have hv:=aG a;rw[h]at hv
 cases a with
 |nil=>
  refine eW call95 func95 ?_;repeat' first|simp only[go_sem,seval,nn]|refine cP hv ?_|refine oE ?_|apply xX<;>intro hc
  rfl
 |cons c r=>
  have hc:=bG h;have hl:=dD h;have hp:=mR hc (by simp)
  have hn:num (c::r)=c.toNat*256^r.length+num r:=rfl;have hr:=ct r;have hc0:c≠0:=by rcases hc with e|e;cases e;exact e
  have hct:0<c.toNat:=by
   rcases jv c.toNat with e|e
   ·exact aM (jB.1 e:c=0) hc0
   ·exact e
  have hcl:=c.toNat_lt;have hb:=qT hct oO;have e256:256^r.length=2^(8*r.length):=by rw[show 256=2^8 from rfl,<-jA]
  have key:cZ (num (c::r))=8*r.length+Lib.bitLen c.toNat:=by
   unfold cZ;rw[af oO];have:(num (c::r)).log2=8*r.length+Lib.bitLen c.toNat-1:=by
    rw[Nat.log2_eq_iff oO];have a1:2^(8*r.length+Lib.bitLen c.toNat-1)=2^(Lib.bitLen c.toNat-1)*256^r.length:=by rw[e256,<-cY];congr 1;omega
    have a2:2^(8*r.length+Lib.bitLen c.toNat-1+1)=2^Lib.bitLen c.toNat*256^r.length:=by rw[e256,<-cY];congr 1;omega
    rw[a1,a2,hn];have b1:=dq (256^r.length) hb.2.1;have b2:=dq (256^r.length) (show c.toNat+1<=2^Lib.bitLen c.toNat from hb.2.2)
    rw[dc]at b2;omega
   omega
  have hL:=Hd c.toNat oO;have hbl:=ji (x:=c.toNat) oO;have hl':r.length<=127:=by simpa using hl
  rw[key];clear hb e256 key hn hr hp hc;refine eW call95 func95 ?_;repeat' first|simp only[go_sem,seval,cn]|refine cP hv ?_|refine cP hL ?_|refine oE ?_|apply xX<;>intro hc
  congr 1;omega
theorem Xa (ha:a<9223372036854775808) (hb:b<9223372036854775808):me .i64 (a:Int) (b:Int)=((a&&&b:Nat):Int):=by
 have h1:a&&&b<9223372036854775808:=eu Nat.and_le_left ha;rw[me,fY,fY,BitVec.toNat_and,kj,kj];show IntKind.i64.wrap ((a%2^64&&&b%2^64:Nat):Int)= _;rw[bw oO,bw oO,IntWalk.i64_in _ oO]
theorem xc {a:Bytes} (h:aa a=true) (i:Nat) (hi:i<4611686018427387904):aE 98 [.s a,E i] (.b ((num a).testBit i)):=by
 have hv:=aG a;rw[h]at hv;have hl:=dD h;have e0:(i:Int).tdiv 8=((i/8:Nat):Int):=rfl;have e1:(i:Int).tmod 8=((i%8:Nat):Int):=rfl;have hd:=kJ a (i/8) oO;have key:(num a).testBit i=decide (num a/256^(i/8)%256/2^(i%8)%2=1):=by
  rw[kG];congr 1;have e2:256^(i/8)=2^(8*(i/8)):=by rw[show 256=2^8 from rfl,<-jA]
  have e3:2^i=256^(i/8)*2^(i%8):=by rw[e2,<-cY];congr 1;omega
  rw[e3,<-eL];generalize num a/256^(i/8)=z;have h8:i%8<8:=aP _ oC;generalize i%8=j at h8;have:2^j*2^(8-j)=256:=by rw[<-cY,show j+(8-j)=8 by omega]
  have e5:z%256/2^j=z/2^j%2^(8-j):=by rw[<-this,qA]
  rw[e5];have e6:2^(8-j)=2*2^(7-j):=by rw[<-wP];congr 1;omega
  rw[e6,Nat.mod_mul_right_mod]
 obtain⟨d,hdd⟩: ∃d,d=num a/256^(i/8)%256:=⟨_,rfl⟩;rw[<-hdd]at key hd;have hdl:d<256:=by rw[hdd];exact aP _ oC
 have hm: ∀ _:True,(if i%8<=64 then i%8 else 64)=i%8:=fun _=>by split<;>omega
 have ha: ∀ _:True,me .i64 ((d/2^(i%8):Nat):Int) 1=((d/2^(i%8)%2:Nat):Int):=fun _=>by
  have hle:d/2^(i%8)<=d:=eT _ _;have:=Xa (a:=d/2^(i%8)) (b:=1) oO oC;rw[Nat.and_one_is_mod]at this;exact this
 have hs:a.length<=i/8->d=0:=fun g=>by rw[hdd,rE a g]
 rw[key];clear key hdd;refine eW call98 func98 ?_;repeat' first|simp only[go_sem,seval,e0,e1,hm oT,ha oT]|refine cP hv ?_|refine cP hd ?_|refine oE ?_|apply xX<;>intro hc
 ·congr 1;rw[dk];simp only[fV,bM];omega
 ·rw[hs oO];simp
end Go.Proofs.Tryz
namespace Go.Proofs.Tryz
open Go Go.Dom Go.RowKit Go.Shelf
theorem p9.calls {P:Program} [cE P] {f:FuncId} {args:List PV} {r:PV} (h:p9 P f args r) (he:Go.Dom.Enters P f f) (w:World) (rd:Rd) (vs:List Value) (h1: ∀b o v,TR P b o=some v->rd b o=some v) (h2: ∀b o v,rd b o=some v->w.cell? ⟨b,o,none⟩=some v) (h3:bQ (PR rd) args vs):
  CallsIn Fence.wide 0 P f vs.toArray w fun e w'=> ∃v,e= .returned v/\Below w.heap.size w w'/\PR (fI rd w w') r v:=by
 obtain⟨g,hg,hc⟩:=h;have:g=f:=by
  have a:=hg #[] w;rw[he #[] w]at a
  cases a;rfl
 subst this;exact callsIn_wide.2 (hc w rd vs h1 h2 h3)
def FN (n:Nat):Nat->List (List PV)
 |0=>[]
 |k+1=>[.b (n.testBit k)]::FN n k
theorem Ji (e:Bytes) (he:aa e=true):Wp prog 477 [.pt (.agg [.s e]) 0] true (FN (num e) (cZ (num e))):=by
 refine⟨call477,?_⟩;intro w rd cvs l J Jx htr hcaps hrd hb hbx hY _ h0;obtain⟨p,us,rfl,hp,hnil⟩:=hcaps.fx;obtain rfl:=hnil.dL;obtain⟨bk,of,rfl,hcell⟩: ∃bk of,p= .pointer (some ⟨bk,of,none⟩)/\rd bk of=some (.string ⟨e.toArray⟩):=by
  cases hp with
  |pt x o vs bk of h1 hl hr h=>
   obtain⟨v,rfl⟩:=oR.1 (show vs.length=1 from hl.symm)
   have:=h 0 (.s e) v rfl rfl;cases this;exact⟨bk,of,rfl,hr 0 _ rfl⟩
 refine callsIn_of_wp func477 rfl oT ?_;simp only[Tryz.ntmps477,kF,List.length_cons,List.length_nil,Nat.reduceAdd,Nat.reduceSub,CN,Array.replicate_zero,C3,CP,List.nil_append,List.cons_append];have hc0:=hrd _ _ h0 _ _ _ hcell
 gi_wp2
 refine⟨trivial,rfl,(p9.calls (vQ he) call95 w rd [_] htr (hrd _ _ h0) ?_).mono ?_⟩
 ·exact .cons (.s e) .nil
 rintro x w1 ⟨v,rfl,hbl,hpr⟩;cases hpr;have h1:=hb _ _ _ h0 hbl;clear hbl h0 hc0;have hbd:cZ (num e)<2^60:=by
  have hl:=dD he;have:=ct e;unfold cZ;split
  ·decide
  ·rename_i h0;have h1:num e<2^(8*e.length):=by rw[jA];exact this
   have h2:=(wN h0).2 h1;omega
 have hw:IntKind.i64.wrap ((cZ (num e):Int)-1)=(cZ (num e):Int)-1:=IntWalk.i64_in _ oO
 gi_wp2
 gi_loopw [3] (fun p wr=> ∃k:Nat,p= .int .i64 ((k:Int)-1)/\k<=cZ (num e)/\J (FN (num e) k) wr) (fun p wr=>match p with| .int _ n=>(n+1).toNat| _=>0)
 case atStart=>
  exact⟨_,rfl,aD _,h1⟩
 case round=>
  obtain⟨k,rfl,hk,hJ⟩:=hrel;have hcr:=hrd _ _ hJ _ _ _ hcell
  cases k with
  |zero=>
   gi_wp2
   go_end0
   exact⟨⟨_,rfl⟩, .inl hJ⟩
  |succ k=>
   have hw2:((k+1:Nat):Int)-1=(k:Int):=oO;rw[hw2]
   gi_wp2
   refine⟨trivial,rfl,(p9.calls (xc he k oO) call98 wr rd [_,_] htr (hrd _ _ hJ) ?_).mono ?_⟩
   ·exact .cons (.s e) (.cons (.i _ _) .nil)
   rintro x w2 ⟨v,rfl,hbl,hpr⟩;cases hpr;have hJ2:=hb _ _ _ hJ hbl;obtain⟨fn,tmps,assign,body,hy,hR⟩:=hY [.b ((num e).testBit k)] (FN (num e) k) [.bool ((num e).testBit k)] w2 hJ2 (.cons (.b _) .nil)
   gi_wp2
   refine⟨rfl,hR.mono ?_⟩;rintro x W3 (⟨rfl,hJ3⟩|⟨rfl,hJx⟩)
   ·have hw3:IntKind.i64.wrap ((k:Int)-1)=(k:Int)-1:=IntWalk.i64_in _ oO
    gi_wp2
    go_roundw
    case rel=>exact⟨k,rfl,oO,hJ3⟩
    case measure=>simp
   ·gi_wp2
    refine bodyPost_ret (results_none rfl _ _ _) rfl ?_;exact⟨⟨_,rfl⟩, .inr hJx⟩
structure Key where
 (name m o z s:Bytes)
 r:List Bytes
 (u h:Bytes)
def Key.pv (k:Key):PV:= .agg [.s k.name, .s k.m, .s k.o, .s k.z, .s k.s, .sl (k.r.map .s), .s k.u, .s k.h]
def rV (n:Int) (b:Bytes):List PV:=[.i .i64 n, .s b]
def Key.iT (k:Key):List (List PV):=rV 2 k.s::rV 0 k.z::rV 1 k.u::rV 1 k.h::k.r.map (rV 0)
theorem Nj {rd:Rd} (n:Int) (b:Bytes):bQ (PR rd) (rV n b) [.int .i64 n, .string ⟨b.toArray⟩]:= .cons (.i _ _) (.cons (.s _) .nil)
theorem Dy (k:Key) (hk:k.r.length<1000000):Wp prog 174 [.pt k.pv 0] true k.iT:=by
 refine⟨call174,?_⟩;intro w rd cvs l J Jx htr hcaps hrd hb hbx hY _ h0;obtain⟨p,us,rfl,hp,hnil⟩:=hcaps.fx;obtain rfl:=hnil.dL;obtain⟨bk,of,v5,rfl,c3,c4,c5,c6,c7,p5⟩: ∃bk of v5,p= .pointer (some ⟨bk,of,none⟩)/\rd bk (of+3)=some (.string ⟨k.z.toArray⟩)/\rd bk (of+4)=some (.string ⟨k.s.toArray⟩)/\rd bk (of+5)=some v5/\rd bk (of+6)=some (.string ⟨k.u.toArray⟩)/\rd bk (of+7)=some (.string ⟨k.h.toArray⟩)/\PR rd (.sl (k.r.map .s)) v5:=by
  cases hp with
  |pt x o vs bk of h1 hl hr h=>
   have hv: ∀i,i<8-> ∃v,vs[i]?=some v:=fun i hi=>⟨_,bZ (by have:vs.length=8:=hl.symm;omega)⟩
   obtain⟨a3,b3⟩:=hv 3 oC;obtain⟨a4,b4⟩:=hv 4 oC;obtain⟨a5,b5⟩:=hv 5 oC;obtain⟨a6,b6⟩:=hv 6 oC;obtain⟨a7,b7⟩:=hv 7 oC;have q3:=h 3 _ _ rfl b3;have q4:=h 4 _ _ rfl b4;have q5:=h 5 _ _ rfl b5;have q6:=h 6 _ _ rfl b6;have q7:=h 7 _ _ rfl b7
   cases q3;cases q4;cases q6;cases q7
   exact⟨bk,of,a5,rfl,hr 3 _ b3,hr 4 _ b4,hr 5 _ b5,hr 6 _ b6,hr 7 _ b7,q5⟩
 refine callsIn_of_wp func174 rfl oT ?_;simp only[Tryz.ntmps174,kF,List.length_cons,List.length_nil,Nat.reduceAdd,Nat.reduceSub,CN,Array.replicate_zero,C3,CP,List.nil_append,List.cons_append];have d4:=hrd _ _ h0 _ _ _ c4;obtain⟨fn,tmps,assign,body,hy,hR⟩:=hY (rV 2 k.s) _ _ w h0 (Nj _ _)
 gi_wp2
 refine⟨rfl,hR.mono ?_⟩;rintro x W1 (⟨rfl,hJ1⟩|⟨rfl,hJx⟩)
 case inr=>(gi_wp2;repeat (refine⟨fun _ h=>(by cases h),?_⟩;gi_wp2));refine bodyPost_ret (results_none rfl _ _ _) rfl ?_;exact⟨⟨_,rfl⟩, .inr hJx⟩
 have d3:=hrd _ _ hJ1 _ _ _ c3;obtain⟨fn,tmps,assign,body,hy,hR⟩:=hY (rV 0 k.z) _ _ W1 hJ1 (Nj _ _)
 gi_wp2
 refine⟨rfl,hR.mono ?_⟩;rintro x W2 (⟨rfl,hJ2⟩|⟨rfl,hJx⟩)
 case inr=>(gi_wp2;repeat (refine⟨fun _ h=>(by cases h),?_⟩;gi_wp2));refine bodyPost_ret (results_none rfl _ _ _) rfl ?_;exact⟨⟨_,rfl⟩, .inr hJx⟩
 have d6:=hrd _ _ hJ2 _ _ _ c6;obtain⟨fn,tmps,assign,body,hy,hR⟩:=hY (rV 1 k.u) _ _ W2 hJ2 (Nj _ _)
 gi_wp2
 refine⟨rfl,hR.mono ?_⟩;rintro x W3 (⟨rfl,hJ3⟩|⟨rfl,hJx⟩)
 case inr=>(gi_wp2;repeat (refine⟨fun _ h=>(by cases h),?_⟩;gi_wp2));refine bodyPost_ret (results_none rfl _ _ _) rfl ?_;exact⟨⟨_,rfl⟩, .inr hJx⟩
 have d7:=hrd _ _ hJ3 _ _ _ c7;obtain⟨fn,tmps,assign,body,hy,hR⟩:=hY (rV 1 k.h) _ _ W3 hJ3 (Nj _ _)
 gi_wp2
 refine⟨rfl,hR.mono ?_⟩;rintro x W4 (⟨rfl,hJ4⟩|⟨rfl,hJx⟩)
 case inr=>(gi_wp2;repeat (refine⟨fun _ h=>(by cases h),?_⟩;gi_wp2));refine bodyPost_ret (results_none rfl _ _ _) rfl ?_;exact⟨⟨_,rfl⟩, .inr hJx⟩
 have d5:=hrd _ _ hJ4 _ _ _ c5;clear d3 d4 d6 d7 hJ1 hJ2 hJ3 h0;obtain⟨ad,cap,rfl,hel⟩: ∃ad cap,v5= .slice ad k.r.length cap/\ ∀i (hi:i<k.r.length),∃b2 o2,ad=some ⟨b2,o2,none⟩/\rd b2 (o2+i)=some (.string ⟨(k.r[i]).toArray⟩):=by
  have hfm:(k.r.map PV.s).flatMap PV.cells=k.r.map PV.s:=by
   generalize k.r=r
   induction r with
   |nil=>rfl
   |cons x r ih=>simp_all[PV.cells]
  generalize hL:k.r.map PV.s=L at p5 hfm
  cases p5 with
  |sl0=>
   have:k.r=[]:=by simpa using hL
   exact⟨none,0,by rw[this];rfl,fun i hi=>by rw[this]at hi;cases hi⟩
  |sle a cap=>
   have:k.r=[]:=by simpa using hL
   exact⟨some a,cap,by rw[this];rfl,fun i hi=>by rw[this]at hi;cases hi⟩
  |sl _ z vs b2 o2 cap hc hz h1 hl hr h=>
   refine⟨some ⟨b2,o2,none⟩,cap,by rw[<-hL];simp,fun i hi=>⟨b2,o2,rfl,?_⟩⟩
   rw[hfm]at hl h;have hiv:i<vs.length:=by rw[<-hl,<-hL];simpa using hi
   have e1:vs[i]?=some vs[i]:=bZ hiv;have:=h i (.s k.r[i]) vs[i] (by rw[<-hL];simp[hi]) e1
   rw[hr i _ e1];generalize vs[i]=q at this
   cases this;rfl
 gi_wp2
 gi_loopw [4,34] (fun q p wr=> ∃i:Nat,p= .int .i64 (i:Int)/\i<=k.r.length/\J ((k.r.drop i).map (rV 0)) wr) (fun q p wr=>match p with| .int _ n=>k.r.length-n.toNat| _=>0)
 case atStart=>
  exact⟨0,rfl,aR _,hJ4⟩
 case round=>
  obtain⟨i,rfl,hi,hJ⟩:=hrel
  by_cases hlt:i<k.r.length
  ·obtain⟨b2,o2,rfl,hc⟩:=hel i hlt;have hcell:=hrd _ _ hJ _ _ _ hc;rw[jt hlt,bV]at hJ;obtain⟨fn,tmps,assign,body,hy,hR⟩:=hY (rV 0 k.r[i]) _ _ wr hJ (Nj _ _);have h1:decide ((i:Int)<(k.r.length:Int))=true:=by simp;omega
   gi_wp2
   refine⟨rfl,hR.mono ?_⟩;rintro x W5 (⟨rfl,hJ5⟩|⟨rfl,hJx⟩)
   ·have hw3:IntKind.i64.wrap ((i:Int)+1)=(i:Int)+1:=IntWalk.i64_in _ oO
    gi_wp2
    go_roundw
    case rel=>exact⟨i+1,rfl,oO,hJ5⟩
    case measure=>simp;omega
   ·gi_wp2
    refine bodyPost_ret (results_none rfl _ _ _) rfl ?_;exact⟨⟨_,rfl⟩, .inr hJx⟩
  ·obtain rfl:i=k.r.length:=oO;rw[dn]at hJ;have h1:decide ((k.r.length:Int)<(k.r.length:Int))=false:=by simp
   gi_wp2
   go_end0
   exact⟨⟨_,rfl⟩, .inl hJ⟩
end Go.Proofs.Tryz
namespace Go.Proofs.Tryz
open Go Go.Dom
variable {n x y:Nat}
theorem Hm {k:Nat} (h1:2^k<=n) (h2:n<2^(k+1)):cZ n=k+1:=by
 have hp:0<2^k:=gT oC;unfold cZ;rw[af oO,(Nat.log2_eq_iff oO).2 ⟨h1,h2⟩]
theorem sr (n:Nat):n<2^cZ n:=by
 unfold cZ;split
 ·rename_i h;rw[h];decide
 ·exact tJ
theorem sk (h:n≠0):2^(cZ n-1)<=n/\0<cZ n:=by
 unfold cZ;rw[af h];exact⟨Nat.log2_self_le h,oO⟩
theorem I3 (h:n≠0):cZ n=cZ (n/2)+1:=by
 obtain⟨h1,h2⟩:=sk h;have h3:=sr n;obtain⟨k,hk⟩: ∃k,cZ n=k+1:=⟨cZ n-1,oO⟩;rw[hk]at h1 h3⊢;simp only[qu]at h1
 cases k with
 |zero=>
  have:n/2=0:=by simp at h3;omega
  rw[this];rfl
 |succ k=>
  rw[Nat.pow_succ]at h1 h3;rw[Hm (n:=n/2) (k:=k) oO oO]
theorem I2 {c:UInt8} (r:Bytes) (h:c≠0):cZ (num (c::r))=8*r.length+cZ c.toNat:=by
 have hc:c.toNat≠0:=fun e=>h (jB.1 e)
 obtain⟨h1,h2⟩:=sk hc;have h3:=sr c.toNat;have e256:256^r.length=2^(8*r.length):=by rw[show 256=2^8 from rfl,<-jA]
 have hn:num (c::r)=c.toNat*256^r.length+num r:=rfl;have hr:=ct r;have a1:2^(8*r.length+cZ c.toNat-1)=2^(cZ c.toNat-1)*256^r.length:=by rw[e256,<-cY];congr 1;omega
 have a2:2^(8*r.length+cZ c.toNat-1+1)=2^cZ c.toNat*256^r.length:=by rw[e256,<-cY];congr 1;omega
 have b1:=dq (256^r.length) h1;have b2:=dq (256^r.length) (show c.toNat+1<=2^cZ c.toNat from h3)
 rw[dc]at b2;rw[Hm (k:=8*r.length+cZ c.toNat-1) oO oO];omega
theorem Sc (x:Nat):(x:Int).tdiv 2=((x/2:Nat):Int):=rfl
theorem yO {a:Bytes} (h:Canon a) (la:a.length<1048576):aE 356 [.s a] (E (cZ (num a))):=by
 cases a with
 |nil=>
  refine eW call356 func356 ?_;repeat' first|simp only[go_sem,seval,nn]|refine oE ?_|apply xX<;>intro hc
  rfl
 |cons c r=>
  have hc0:c≠0:=by rcases h with e|e;cases e;exact e
  have hb:=I2 r hc0;obtain⟨B,hB⟩: ∃B,B=cZ (num (c::r)):=⟨_,rfl⟩;rw[<-hB]at hb⊢;have hcl:=c.toNat_lt;have hl:r.length<1048576:=by simp at la;omega
  have hb8:cZ c.toNat<=8:=by
   obtain⟨g1,g2⟩:=sk (n:=c.toNat) (fun e=>hc0 (jB.1 e))
   have:=(qF (by decide:1<2)).1 (show 2^(cZ c.toNat-1)<2^8 by omega)
   omega
  refine eW call356 func356 ?_;refine dY @cn ?_;refine ak (α:=Nat) (fun x=>x) (fun x=>⟨[(3,E' (B-cZ x)),(4,E' x)],[],_⟩) (fun x=>x<256/\cZ x<=B) c.toNat (fun _=>aD _) ⟨hcl,oO⟩ ?_ ?_
  ·(refine AS.Le.of (by first|decide|omega) ?_ ?_<;>simp[dA,dz,aS,aB,AV.bd,AV.bd.bdL,u8,aq,au,aA])
   all_goals omega
  ·rintro x ⟨hx,hxb⟩ R hR
   by_cases h0:x=0
   ·subst h0;repeat' first|simp only[go_sem,seval]|refine oE ?_|apply xX<;>intro hc
    rfl
   ·have hh:=I3 h0;have hw: ∀ _:True,IntKind.i64.wrap (((B-cZ x:Nat):Int)+1)=((B-cZ (x/2):Nat):Int):=fun _=>by rw[IntWalk.i64_in _ oO];omega
    refine eC (aN @Sc (hw oT)) ?_;refine hR (x/2) ⟨oO,oO⟩ oO _ ?_;exact lE
theorem Ih (a:Bytes) (i:Nat) (la:a.length<1048576) (hi:i<1099511627776):aE 357 [.s a,E i] (.b ((num a).testBit i)):=by
 have hd:=rH a (i/8) oO;have e0:(i:Int).tdiv 8=((i/8:Nat):Int):=rfl;have e1:(i:Int).tmod 8=((i%8:Nat):Int):=rfl;have key:(num a).testBit i=decide (num a/256^(i/8)%256/2^(i%8)%2=1):=by
  rw[kG];congr 1;have e2:256^(i/8)=2^(8*(i/8)):=by rw[show 256=2^8 from rfl,<-jA]
  have e3:2^i=256^(i/8)*2^(i%8):=by rw[e2,<-cY];congr 1;omega
  rw[e3,<-eL];generalize num a/256^(i/8)=z;have h8:i%8<8:=aP _ oC;generalize i%8=j at h8;have:2^j*2^(8-j)=256:=by rw[<-cY,show j+(8-j)=8 by omega]
  have e5:z%256/2^j=z/2^j%2^(8-j):=by rw[<-this,qA]
  rw[e5];have e6:2^(8-j)=2*2^(7-j):=by rw[<-wP];congr 1;omega
  rw[e6,Nat.mod_mul_right_mod]
 rw[key];clear key;obtain⟨d,hdd⟩: ∃d,d=num a/256^(i/8)%256:=⟨_,rfl⟩;rw[<-hdd]at hd⊢;have hdl:d<256:=by rw[hdd];exact aP _ oC
 obtain⟨e,he⟩: ∃e,e=i%8:=⟨_,rfl⟩;rw[<-he]at e1⊢;clear hdd;refine eW call357 func357 ?_;refine rU (aN @e0 @e1) @hd ?_;refine ak (α:=Nat) (fun j=>e-j) (fun j=>⟨[(1,E' i),(5,E' (d/2^j)),(6,E' j)],[],_⟩) (fun j=>j<=e) 0 (fun _=>aD _) (aR _) ?_ ?_
 ·(refine AS.Le.of (by first|decide|omega) ?_ ?_<;>simp[dA,dz,aS,aB,AV.bd,AV.bd.bdL,u8,aq,au,aA])
  all_goals simp
 ·intro j hj R hR;have hle:d/2^j<=d:=eT _ _
  by_cases hlt:j<e
  ·have hw: ∀ _:True,IntKind.i64.wrap ((d/2^j/2:Nat):Int)=((d/2^(j+1):Nat):Int):=fun _=>by
    rw[Nat.pow_succ,<-eL];generalize d/2^j=z at hle⊢;rw[IntWalk.i64_in _ oO]
   refine eC (aN @e1 (aN @Sc (hw oT))) ?_;refine hR (j+1) oO oO _ ?_;exact lE
  ·obtain rfl:j=e:=oO;have e3:((d/2^j:Nat):Int).tmod 2=((d/2^j%2:Nat):Int):=rfl;repeat' first|simp only[go_sem,seval,e1,e3]|refine oE ?_|apply xX<;>intro hc
   congr 1;rw[dk];simp only[fV,bM];omega
theorem Nb (hx:(bR x).length<1099511627776) (hy:(bR y).length<1099511627776):aE 142 [N x,N y] (N (x+y)):=by
 have:=EG (bR x) (bR y) hx hy
 rwa[aY,aY]at this
theorem Ie (hx:(bR x).length<1099511627776) (hy:(bR y).length<1099511627776) (h:y<=x):aE 230 [N x,N y] (N (x-y)):=by
 have:=lL (bR x) (bR y) hx hy (by rw[aY,aY];exact h)
 rwa[aY,aY]at this
theorem Ik (hx:(bR x).length<1048576) (hy:(bR y).length<1048576):aE 359 [N x,N y] (N (x*y)):=by
 have:=qm (bR x) (bR y) hx hy
 rwa[aY,aY]at this
theorem Ii (hx:(bR x).length<1099511627776) (hy:(bR y).length<1099511627776):aE 111 [N x,N y] (E (aZ x y)):=by
 have:=fZ (fF x) (fF y) oO oO
 rwa[aY,aY]at this
theorem H4:(.s [1]:PV)=N 1:=rfl
theorem Pl (n:Nat):be n 0=List.replicate n 0:=by
 induction n with
 |zero=>rfl
 |succ n ih=>rw[be,ih,Nat.zero_div,List.replicate_succ];rfl
theorem pQ {a b:Bytes} (ha:Canon a) (hb:Canon b) (h0:0<num b) (la:a.length<1048576) (lb:b.length<1048576):aE 229 [.s a, .s b] (.tup [N (num a/num b),N (num a%num b)]):=by
 by_cases h8:a.length<=8/\b.length<=8
 ·have hu1:=sQ a h8.1;have hu2:=sQ b h8.2;have na:=dO h8.1;have nb:=dO h8.2;have hq:num a/num b<(2^64):=eu (eT _ _) na;have hr:num a%num b<(2^64):=eu (tA _ _) na;refine eW call229 func229 ?_;repeat' first|simp only[go_sem,seval,uw,bw hq]|refine cP hu1 ?_|refine cP hu2 ?_|refine cP (jS _ hq) ?_|refine cP (jS _ hr) ?_|refine oE ?_|apply xX<;>intro hc
 have hbits:=yO ha la;obtain⟨n,hn⟩: ∃n,n=a.length:=⟨_,rfl⟩;have hone:=fun i hi=>Ih a i la hi
 have hAn:num a<256^n:=by rw[hn];exact ct a
 obtain⟨A,hA⟩: ∃A,A=num a:=⟨_,rfl⟩;obtain⟨B,hB⟩: ∃B,B=num b:=⟨_,rfl⟩;have hbB:bR B=b:=by rw[hB];exact Ho hb
 have hBl:(bR B).length<1048576:=by rw[hbB];exact lb
 have hlen: ∀{x:Nat},x<2*B->(bR x).length<1099511627776:=by
  intro x hx;have h1:B<256^b.length:=by rw[hB];exact ct b
  have h2:x<256^(b.length+1):=by rw[Nat.pow_succ];omega
  have:=n8.2 h2;omega
 have hbl:cZ A<8388608:=by
  by_cases hz:A=0
  ·rw[hz];decide
  ·obtain⟨g1,g2⟩:=sk hz;have g3:2^(cZ A-1)<2^(8*n):=eu g1 (by rw[jA];rw[hA];exact hAn)
   have:=(qF (by decide:1<2)).1 g3
   omega
 rw[<-hA]at hbits hone hAn⊢;rw[<-hB]at h0⊢;have eb:PV.s b=N B:=by show PV.s b=PV.s (bR B);rw[hbB]
 have hb2:A/2^cZ A=0:=ir (sr A);rcases(show 8<a.length\/(a.length<=8/\8<b.length) by omega)with g|g
 all_goals
  refine eW call229 func229 ?_;simp only[go_sem,seval,<-hn];repeat' first|simp only[go_sem,seval,<-hn,nr]|refine cP hbits ?_|refine oE ?_|apply xX<;>intro hc
  refine ak (α:=Nat) (fun k=>k) (fun k=>⟨[(0, .v (.s a)),(1, .v (.s b)),(8, .rs 1012 0 0 n 1),(9, .v (N (A/2^k%B))),(10, .v (.i .i64 ((k:Int)-1)))],[(1012,⟨0,aJ (be n (A/2^k/B*2^k)),false,none⟩)],_⟩) (fun k=>k<=cZ A) (cZ A) (fun _=>aD _) (aD _) ?_ ?_
  ·(refine AS.Le.of (by first|decide|omega) ?_ ?_<;>simp[dA,dz,aS,aB,AV.bd,AV.bd.bdL,u8,aq,au,aA])
   all_goals simp[hb2,Pl]
   all_goals rfl
  ·intro k hk R hR;have hbe: ∀q,(be n q).length=n:=fun q=>cH _ _
   cases k with
   |zero=>
    have:=pR (be n (A/1/B)) (by rw[cH];omega)
    repeat' first|simp only[go_sem,seval,hbe]|(refine gZ this rfl rfl (hbe _).symm ?_)|refine oE ?_|apply xX<;>intro hc
    rw[iq,js (eu (eT _ _) hAn)]
   |succ i=>
    have hz:=D9 A i;have ht:A/2^i%2<2:=aP _ oC;obtain⟨s1,s2⟩:=LL (z:=A/2^(i+1)) (t:=A/2^i%2) (B:=B) h0 ht;rw[<-hz]at s1 s2;have hr1:A/2^(i+1)%B<B:=aP _ h0;have hbit:=hone i oO;rw[kG]at hbit;have hQn:A/2^i/B*2^i<=A:=fQ (dq _ (eT _ _)) (qv _ _);obtain⟨Q,hQ⟩: ∃Q,Q=A/2^(i+1)/B:=⟨_,rfl⟩;obtain⟨r,hr⟩: ∃r,r=A/2^(i+1)%B:=⟨_,rfl⟩;obtain⟨t,htt⟩: ∃t,t=A/2^i%2:=⟨_,rfl⟩;rw[<-hQ,<-hr,<-htt]at s1;rw[<-hr,<-htt]at s2;rw[<-hr]at hr1;rw[<-htt]at ht hbit;rw[<-hQ,<-hr];have hQ2:Q*2^(i+1)=2*Q*2^i:=by rw[Nat.pow_succ,bU (2^i),<-cA,bU Q]
    have p1:=Nb (x:=r) (y:=r) (hlen oO) (hlen oO);have p2:=Nb (x:=r+r) (y:=1) (hlen oO) oC;have hw0: ∀ _:True,((i+1:Nat):Int)-1=(i:Int):=fun _=>oO
    have hge0: ∀ _:True,decide ((i:Int)>=0)=true:=fun _=>by simp
    have hrt:r+r+t=2*r+t:=oO
    by_cases hge:B<=r+r+t
    ·rw[ah oO]at s1 s2;have m1:=Ie (x:=r+r+t) (y:=B) (hlen oO) oO hge;have o1:=Ii (x:=r+r+t) (y:=B) (hlen oO) oO;obtain⟨cm,hcm⟩: ∃cm,cm=aZ (r+r+t) B:=⟨_,rfl⟩;have hcg: ∀ _:True,decide (cm>=0)=true:=fun _=>by rw[hcm];unfold aZ;rw[af oO];split<;>rfl
     rw[<-hcm]at o1;rw[<-eb]at m1 o1;have s2':A/2^i%B=r+r+t-B:=by rw[s2];omega
     have s1':A/2^i/B*2^i=Q*2^(i+1)+2^(i%8)*256^(i/8):=by rw[s1,dc,Lj,hQ2,iv]
     have hbf:=Lk (Q:=Q) (i:=i);have hj:i/8<n:=by
      have h1:256^(i/8)<=A:=by
       rw[s1']at hQn;have:=CH (256^(i/8)) (gT (n:=i%8) (show 0<2 by decide))
       omega
      exact(qF (by decide:1<256)).1 (eu h1 hAn)
     have hadd:=Ts hj hbf;rw[<-s1']at hadd;have hq1:(i:Int).tdiv 8=((i/8:Nat):Int):=rfl;have hq2:(i:Int).tmod 8=((i%8:Nat):Int):=rfl;have hix: ∀ _:True,((n:Int)-1-((i/8:Nat):Int)).toNat=n-1-i/8:=fun _=>oO
     have hdig:=ux (be n (Q*2^(i+1))) (i:=i/8) (by rw[cH];exact hj)
     rw[cH,yr]at hdig;have hdig2:Q*2^(i+1)%256^n/256^(i/8)%256=Q*2^(i+1)/256^(i/8)%256:=by
      have this:Q*2^(i+1)<=A/2^i/B*2^i:=by rw[s1'];exact Nat.le_add_right _ _
      rw[bw (eu (fQ this hQn) hAn)]
     rw[hdig2]at hdig;obtain⟨L,hL⟩: ∃L,L=be n (Q*2^(i+1)):=⟨_,rfl⟩;have hLl:L.length=n:=by rw[hL];exact cH _ _
     obtain⟨y,hy⟩: ∃y,y=Q*2^(i+1)/256^(i/8)%256:=⟨_,rfl⟩;rw[<-hL,<-hy]at hadd hdig;rw[<-hy]at hbf;rw[<-hL];have hrd: ∀ _:True,(aJ L).getD (n-1-i/8) .u= .v (.i .u8 (y:Int)):=fun _=>by
      have:n-1-i/8<L.length:=oO;rw[<-hdig];simp[aJ,ca,this,u8]
     have he7:i%8<8:=aP _ oC;clear hQ hr htt hz hQ2 hdig2 hL hy;rcases(show t=0\/t=1 by omega)with h0|h1
     ·subst h0;have hbit':aE 357 [.s a,E i] (.b false):=hbit;refine tN (aN (hw0 oT) (aN (hge0 oT) (hcg oT))) @p1 @hbit' @o1 @m1 ?_;refine ak (α:=Nat) (fun j=>i%8-j) (fun j=>⟨[(0, .v (.s a)),(1, .v (.s b)),(8, .rs 1012 0 0 n 1),(9, .v (N (r+r-B))),(10, .v (.i .i64 (i:Int))),(11, .v (.i .u8 ((2^j:Nat):Int))),(12, .v (.i .i64 (j:Int)))],[(1012,⟨0,aJ L,false,none⟩)],_⟩) (fun j=>j<=i%8) 0 (fun _=>aD _) (aR _) ?_ ?_
      ·exact lE
      ·intro j hj R2 hR2
       by_cases hlt:j<i%8
       ·have hp7:2^(j+1)<=2^7:=cM oC oO;have hwj: ∀ _:True,IntKind.u8.wrap (((2^j:Nat):Int)*2)=((2^(j+1):Nat):Int):=fun _=>by
         rw[VU,Nat.pow_succ,Int.natCast_mul];rw[Nat.pow_succ]at hp7;omega
        refine eC (aN @hq2 (hwj oT)) ?_;refine hR2 (j+1) oO oO _ ?_;exact lE
       ·obtain rfl:j=i%8:=oO;repeat' first|simp only[go_sem,seval,<-hn,hq1,hq2,hLl,hix oT,hrd oT]|refine oE ?_|apply xX<;>intro hc
        refine hR i oO oO _ ?_;rw[s2',ss (c:=UInt8.ofNat (y+2^(i%8))) oO (by rw[<-Int.natCast_add,kA]),hadd]
        exact lE
     ·subst h1;have hbit':aE 357 [.s a,E i] (.b true):=hbit;refine Rl (aN (hw0 oT) (aN (hge0 oT) (aN (hcg oT) @H4))) @p1 @hbit' @p2 @o1 @m1 oT oT ?_;refine ak (α:=Nat) (fun j=>i%8-j) (fun j=>⟨[(0, .v (.s a)),(1, .v (.s b)),(8, .rs 1012 0 0 n 1),(9, .v (N (r+r+1-B))),(10, .v (.i .i64 (i:Int))),(11, .v (.i .u8 ((2^j:Nat):Int))),(12, .v (.i .i64 (j:Int)))],[(1012,⟨0,aJ L,false,none⟩)],_⟩) (fun j=>j<=i%8) 0 (fun _=>aD _) (aR _) ?_ ?_
      ·exact lE
      ·intro j hj R2 hR2
       by_cases hlt:j<i%8
       ·have hp7:2^(j+1)<=2^7:=cM oC oO;have hwj: ∀ _:True,IntKind.u8.wrap (((2^j:Nat):Int)*2)=((2^(j+1):Nat):Int):=fun _=>by
         rw[VU,Nat.pow_succ,Int.natCast_mul];rw[Nat.pow_succ]at hp7;omega
        refine eC (aN @hq2 (hwj oT)) ?_;refine hR2 (j+1) oO oO _ ?_;exact lE
       ·obtain rfl:j=i%8:=oO;repeat' first|simp only[go_sem,seval,<-hn,hq1,hq2,hLl,hix oT,hrd oT]|refine oE ?_|apply xX<;>intro hc
        refine hR i oO oO _ ?_;rw[s2',ss (c:=UInt8.ofNat (y+2^(i%8))) oO (by rw[<-Int.natCast_add,kA]),hadd]
        exact lE
    ·rw[af oO]at s1 s2;have o1:=Ii (x:=r+r+t) (y:=B) (hlen oO) oO;have hcm:aZ (r+r+t) B= -1:=by unfold aZ;rw[ah oO]
     rw[hcm,<-eb]at o1;have s2':A/2^i%B=r+r+t:=by rw[s2];omega
     have s1':A/2^i/B*2^i=Q*2^(i+1):=by rw[s1,hQ2];rfl
     clear hQ hr htt hz hQ2;have hR':=hR i oO oO;rw[s1',s2']at hR';rcases(show t=0\/t=1 by omega)with h0|h1
     ·subst h0;have hbit':aE 357 [.s a,E i] (.b false):=hbit;refine Di (aN (hw0 oT) (hge0 oT)) @p1 @hbit' @o1 oT ?_;refine hR' _ ?_;exact lE
     ·subst h1;have hbit':aE 357 [.s a,E i] (.b true):=hbit;refine Di (aN (hw0 oT) (aN (hge0 oT) @H4)) @p1 @hbit' @p2 @o1 ?_;refine hR' _ ?_;exact lE
