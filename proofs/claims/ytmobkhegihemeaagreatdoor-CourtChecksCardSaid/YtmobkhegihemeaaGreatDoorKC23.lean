/-
  Part of the proof, part KC23. Own work.
-/
import Derived.RangeFuncKeeps
import Derived.RangeFuncLeaves
import Derived.Shelf.Abstract
import Derived.WalkKit
import Derived.OwnWalkIn
import Derived.TacticsInMore
import Derived.LoopNIn
import Derived.LoopIn
import Derived.Test.YtmobkhegihemeaaGreatDoorKC22
set_option linter.all false
namespace Go.Proofs.YtmobkhegihemeaaGreatDoor
open Go Go.Dom
set_option maxRecDepth 100000
set_option maxHeartbeats 4000000
theorem rW {a b:Bytes} (ha:aa a=true) (hb:aa b=true) (h0:0<num b) (h:a.length≤8∨num a<num b):aD Tryz.prog 160 [.s a, .s b] (.tup [.s (aP (num a/num b)), .s (aP (num a%num b))]):=by
 have hc:=mV (bE ha) (bE hb)
 by_cases hlt:num a<num b
 ·have e:a6 (num a) (num b)= -1:=by simp[a6,hlt]
  rw[e]at hc;have e1:aP (num a/num b)=[]:=by rw[gn hlt];rfl
  have e2:aP (num a%num b)=a:=by rw[bA hlt];exact fW ha
  refine eW Tryz.call160 Tryz.func160 ?_;repeat' first|simp only[go_sem,seval,e1,e2]|refine cP hc ?_|refine sB ?_|(first|apply pX|apply bX)<;>intro hc|refine⟨oD,?_⟩|exact oD|fail
 ·have la:a.length≤8:=h.resolve_right hlt;have lb:b.length≤8:=by
   rcases ny a.length b.length with g|g
   ·have:=gJ (a:=a) (bE hb) g;omega
   ·omega
  have sa:=mD a;have sb:=mD b;rw[ha,bZ,decide_eq_true la]at sa;rw[hb,bZ,decide_eq_true lb]at sb;have na:=ep la;have nb:=ep lb;have hc':0≤a6 (num a) (num b):=by unfold a6;split<;>(try split)<;>omega
  have hq:num a/num b<18446744073709551616:=dQ (dR _ _) na;have hr:num a%num b<18446744073709551616:=dQ (Nat.mod_le _ _) na;refine eW Tryz.call160 Tryz.func160 ?_;repeat' first|simp only[go_sem,seval,if_true,uw,bA hq]|refine cP hc ?_|refine cP sa ?_|refine cP sb ?_|refine cP (jT _ hq) ?_|refine cP (jT _ hr) ?_|refine sB ?_|(first|apply pX|apply bX)<;>intro hc|refine⟨oD,?_⟩|exact oD|fail
def qm (a b:Bytes):Bytes×Bytes×Int:=if aa a&&aa b then(if b=[]then([],[],11)else(aP (num a/num b),aP (num a%num b),0))else([],[],3)
theorem qA {b:Bytes} (h:Canon b) (h0:b≠[]):0<num b:=a9 (fL (by decide)) (mF h h0)
theorem Gp (a b:Bytes) (h:aa a=true→aa b=true→b≠[]→a.length≤8∨num a<num b):aD Tryz.prog 107 [.s a, .s b] (.tup [.s (qm a b).1, .s (qm a b).2.1,E (qm a b).2.2]):=by
 by_cases hv:aa a=true∧aa b=true
 case neg=>
  refine eW Tryz.call107 Tryz.func107 ?_;repeat' first|simp only[go_sem,seval]|refine cP (aM _) ?_|refine sB ?_|(first|apply pX|apply bX)<;>intro hc|refine⟨oD,?_⟩|exact oD|fail
  all_goals simp_all[qm]
 obtain⟨hva,hvb⟩:=hv
 by_cases hb:b=[]
 ·subst hb;refine eW Tryz.call107 Tryz.func107 ?_;repeat' first|simp only[go_sem,seval]|refine cP (aM _) ?_|refine sB ?_|(first|apply pX|apply bX)<;>intro hc|refine⟨oD,?_⟩|exact oD|fail
  all_goals simp_all[qm]
 ·have hp:=qA (bE hvb) hb;refine eW Tryz.call107 Tryz.func107 ?_;repeat' first|simp only[go_sem,seval]|refine cP (aM _) ?_|refine cP (rW hva hvb hp (h hva hvb hb)) ?_|refine sB ?_|(first|apply pX|apply bX)<;>intro hc|refine⟨oD,?_⟩|exact oD|fail
  all_goals simp_all[qm]
abbrev N (n:Nat):PV:= .s (aP n)
theorem vN {n:Nat} (h:n<18446744073709551616):aa (aP n)=true:=oI (ie h (by decide+kernel))
theorem lN {n:Nat} (h:n<18446744073709551616):(aP n).length≤8:=mT.2 h
theorem pR {a b:Nat} (ha:a<18446744073709551616) (hb:b<18446744073709551616) (h0:0<b):aD Tryz.prog 107 [N a,N b] (.tup [N (a/b),N (a%b),E 0]):=by
 have:=Gp (aP a) (aP b) (fun _ _ _=> .inl (lN ha))
 have e:aP b≠[]:=fun h=>by rw[gI]at h;omega
 simpa only[qm,vN ha,vN hb,dh,if_true,e,if_false,aK]using this
theorem Jj {a b:Nat} (ha:a<18446744073709551616) (hb:b<18446744073709551616) (h0:0<b):aD Tryz.prog 160 [N a,N b] (.tup [N (a/b),N (a%b)]):=by
 have:=rW (vN ha) (vN hb) (by rw[aK];exact h0) (.inl (lN ha))
 simpa only[aK]using this
theorem DN:(aP 0==([]:Bytes))=true:=rfl
theorem qz {n:Nat} (h:n≠0):(aP n==([]:Bytes))=false:=by
 rw[beq_eq_false_iff_ne];intro e;exact h (gI.1 e)
theorem sS (m n:Nat):(aP m==aP n)=decide (m=n):=by
 rw[dx];simp[EP]
theorem U9 {a b:Nat} (ha:a<18446744073709551616) (hb:b<18446744073709551616):aD Tryz.prog 215 [N a,N b] (.tup [N (Nat.gcd a b),E 0]):=by
 have va:=aM (aP a);have vb:=aM (aP b);rw[vN ha]at va;rw[vN hb]at vb;refine eW Tryz.call215 Tryz.func215 ?_;repeat' first|simp only[go_sem,seval]|refine cP va ?_|refine cP vb ?_|refine sB ?_|(first|apply pX|apply bX)<;>intro hc|refine⟨oD,?_⟩|exact oD|fail
 refine aj (α:=Nat×Nat) (fun x=>x.2) (fun x=>⟨[(0, .v (N x.1)),(1, .v (N x.2))],[],_⟩) (fun x=>x.1<18446744073709551616∧x.2<18446744073709551616∧Nat.gcd x.1 x.2=Nat.gcd a b) (a,b) (fun _=>au _) ⟨ha,hb,rfl⟩ ?_ ?_
 ·exact lE
 ·rintro⟨x,y⟩ ⟨hx,hy,hg⟩ R hR;simp only at hx hy hg
  by_cases h0:y=0
  ·subst h0;repeat' first|simp only[go_sem,seval,DN]|refine sB ?_|(first|apply pX|apply bX)<;>intro hc|refine⟨oD,?_⟩|exact oD|fail
   rw[←hg,AJ]
  ·have e:=qz h0;have hd:=Jj hx hy (by omega)
   repeat' first|simp only[go_sem,seval,e]|refine cP hd ?_|refine sB ?_|(first|apply pX|apply bX)<;>intro hc|refine⟨oD,?_⟩|exact oD|fail
   have hm:x%y<y:=aG _ (by omega)
   refine hR (y,x%y) ⟨hy,by show x%y< _;omega,?_⟩ hm _ ?_
   ·show Nat.gcd y (x%y)= _;rw[←hg,jx x y,kD y x,jx]
   ·exact lE
theorem nn:(([]:Bytes)==[])=true:=rfl
theorem cn (c:UInt8) (r:Bytes):((c::r:Bytes)==[])=false:=rfl
def cd (n:Nat):Nat:=if n=0 then 0 else n.log2+1
theorem tH {a:Bytes} (h:aa a=true):aD Tryz.prog 126 [.s a] (E (cd (num a))):=by
 have hv:=aM a;rw[h]at hv
 cases a with
 |nil=>
  refine eW Tryz.call126 Tryz.func126 ?_;repeat' first|simp only[go_sem,seval,nn]|refine cP hv ?_|refine sB ?_|(first|apply pX|apply bX)<;>intro hc|refine⟨oD,?_⟩|exact oD|fail
  rfl
 |cons c r=>
  have hc:=bE h;have hl:=cI h;have hp:=qA hc (by simp)
  have hn:num (c::r)=c.toNat*256^r.length+num r:=rfl;have hr:=bV r;have hc0:c≠0:=by rcases hc with e|e;cases e;exact e
  have hct:0<c.toNat:=by
   rcases jR c.toNat with e|e
   ·exact absurd (jd.1 e:c=0) hc0
   ·exact e
  have hcl:=c.toNat_lt;have hb:=o6 hct (by omega)
  have e256:256^r.length=2^(8*r.length):=by rw[show 256=2^8 from rfl,←jb]
  have key:cd (num (c::r))=8*r.length+Lib.bitLen c.toNat:=by
   unfold cd;rw[if_neg (by omega)]
   have:(num (c::r)).log2=8*r.length+Lib.bitLen c.toNat-1:=by
    rw[Nat.log2_eq_iff (by omega)]
    have a1:2^(8*r.length+Lib.bitLen c.toNat-1)=2^(Lib.bitLen c.toNat-1)*256^r.length:=by rw[e256,←ct];congr 1;omega
    have a2:2^(8*r.length+Lib.bitLen c.toNat-1+1)=2^Lib.bitLen c.toNat*256^r.length:=by rw[e256,←ct];congr 1;omega
    rw[a1,a2,hn];have b1:=cC (256^r.length) hb.2.1;have b2:=cC (256^r.length) (show c.toNat+1≤2^Lib.bitLen c.toNat from hb.2.2)
    rw[cr]at b2;omega
   omega
  have hL:=EH c.toNat (by omega)
  have hbl:=iM (x:=c.toNat) (by omega)
  have hl':r.length≤127:=by simpa using hl
  rw[key];clear hb e256 key hn hr hp hc;refine eW Tryz.call126 Tryz.func126 ?_;repeat' first|simp only[go_sem,seval,cn]|refine cP hv ?_|refine cP hL ?_|refine sB ?_|(first|apply pX|apply bX)<;>intro hc|refine⟨oD,?_⟩|exact oD|fail
  congr 1;omega
theorem TB {a b:Nat} (ha:a<9223372036854775808) (hb:b<9223372036854775808):kR .i64 (a:Int) (b:Int)=((a&&&b:Nat):Int):=by
 have h1:a&&&b<9223372036854775808:=dQ Nat.and_le_left ha;rw[kR,fw,fw,BitVec.toNat_and,jB,jB];show IntKind.i64.wrap ((a%2^64&&&b%2^64:Nat):Int)= _;rw[bA (by omega),bA (by omega),IntWalk.i64_in _ (by omega)]
theorem uM {a:Bytes} (h:aa a=true) (i:Nat) (hi:i<4611686018427387904):aD Tryz.prog 129 [.s a,E i] (.b ((num a).testBit i)):=by
 have hv:=aM a;rw[h]at hv;have hl:=cI h;have e0:(i:Int).tdiv 8=((i/8:Nat):Int):=rfl;have e1:(i:Int).tmod 8=((i%8:Nat):Int):=rfl;have hd:=jX a (i/8) (by omega)
 have key:(num a).testBit i=decide (num a/256^(i/8)%256/2^(i%8)%2=1):=by
  rw[jS];congr 1;have e2:256^(i/8)=2^(8*(i/8)):=by rw[show 256=2^8 from rfl,←jb]
  have e3:2^i=256^(i/8)*2^(i%8):=by rw[e2,←ct];congr 1;omega
  rw[e3,←dZ];generalize num a/256^(i/8)=z;have h8:i%8<8:=aG _ (by decide)
  generalize i%8=j at h8;have:2^j*2^(8-j)=256:=by rw[←ct,show j+(8-j)=8 by omega]
  have e5:z%256/2^j=z/2^j%2^(8-j):=by rw[←this,oU]
  rw[e5];have e6:2^(8-j)=2*2^(7-j):=by rw[←tY];congr 1;omega
  rw[e6,Nat.mod_mul_right_mod]
 obtain⟨d,hdd⟩: ∃d,d=num a/256^(i/8)%256:=⟨_,rfl⟩;rw[←hdd]at key hd;have hdl:d<256:=by rw[hdd];exact aG _ (by decide)
 have hm: ∀ _:True,(if i%8≤64 then i%8 else 64)=i%8:=fun _=>by split<;>omega
 have ha: ∀ _:True,kR .i64 ((d/2^(i%8):Nat):Int) 1=((d/2^(i%8)%2:Nat):Int):=fun _=>by
  have hle:d/2^(i%8)≤d:=dR _ _;have:=TB (a:=d/2^(i%8)) (b:=1) (by omega) (by decide)
  rw[Nat.and_one_is_mod]at this;exact this
 have hs:a.length≤i/8→d=0:=fun g=>by rw[hdd,pC a g]
 rw[key];clear key hdd;refine eW Tryz.call129 Tryz.func129 ?_;repeat' first|simp only[go_sem,seval,e0,e1,hm trivial,ha trivial]|refine cP hv ?_|refine cP hd ?_|refine sB ?_|(first|apply pX|apply bX)<;>intro hc|refine⟨oD,?_⟩|exact oD|fail
 ·congr 1;rw[dx];simp only[beq_iff_eq,decide_eq_true_eq];omega
 ·rw[hs (by omega)];simp
end Go.Proofs.YtmobkhegihemeaaGreatDoor
namespace Go.Proofs.YtmobkhegihemeaaGreatDoor
open Go Go.Dom Go.RowKit Go.Shelf
set_option maxRecDepth 100000
set_option maxHeartbeats 4000000
theorem aD.calls {P:Program} [bT P] {f:FuncId} {args:List PV} {r:PV} (h:aD P f args r) (he:Go.Dom.Enters P f f) (w:World) (rd:Rd) (vs:List Value) (h1: ∀b o v,TR P b o=some v→rd b o=some v) (h2: ∀b o v,rd b o=some v→w.cell? ⟨b,o,none⟩=some v) (h3:aY (PR rd) args vs):
  CallsIn Fence.wide 0 P f vs.toArray w fun e w'=> ∃v,e= .returned v∧Below w.heap.size w w'∧PR (eT rd w w') r v:=by
 obtain⟨g,hg,hc⟩:=h;have:g=f:=by
  have a:=hg #[] w;rw[he #[] w]at a
  cases a;rfl
 subst this;exact callsIn_wide.2 (hc w rd vs h1 h2 h3)
def Dx (n:Nat):Nat→List (List PV)
 |0=>[]
 |k+1=>[.b (n.testBit k)]::Dx n k
theorem GO (e:Bytes) (he:aa e=true):UU Tryz.prog 239 [.pt (.agg [.s e]) 0] true (Dx (num e) (cd (num e))):=by
 refine⟨Tryz.call239,?_⟩;intro w rd cvs l J Jx htr hcaps hrd hb hbx hY _ h0;obtain⟨p,us,rfl,hp,hnil⟩:=hcaps.eR;obtain rfl:=hnil.dq;obtain⟨bk,of,rfl,hcell⟩: ∃bk of,p= .pointer (some ⟨bk,of,none⟩)∧rd bk of=some (.string ⟨e.toArray⟩):=by
  cases hp with
  |pt x o vs bk of h1 hl hr h=>
   obtain⟨v,rfl⟩:=nC.1 (show vs.length=1 from hl.symm)
   have:=h 0 (.s e) v rfl rfl;cases this;exact⟨bk,of,rfl,hr 0 _ rfl⟩
 refine callsIn_of_wp Tryz.func239 rfl trivial ?_;simp only[Tryz.ntmps239,kx,List.length_cons,List.length_nil,Nat.reduceAdd,Nat.reduceSub,Array.replicate_succ,Array.replicate_zero,List.push_toArray,List.append_toArray,List.nil_append,List.cons_append];have hc0:=hrd _ _ h0 _ _ _ hcell
 gi_wp2
 refine⟨trivial,rfl,(aD.calls (tH he) Tryz.call126 w rd [_] htr (hrd _ _ h0) ?_).mono ?_⟩
 ·exact .cons (.s e) .nil
 rintro x w1 ⟨v,rfl,hbl,hpr⟩;cases hpr;have h1:=hb _ _ _ h0 hbl;clear hbl h0 hc0;have hbd:cd (num e)<2^60:=by
  have hl:=cI he;have:=bV e;unfold cd;split
  ·decide
  ·rename_i h0;have h1:num e<2^(8*e.length):=by rw[jb];exact this
   have h2:=(ur h0).2 h1;omega
 have hw:IntKind.i64.wrap ((cd (num e):Int)-1)=(cd (num e):Int)-1:=IntWalk.i64_in _ (by omega)
 gi_wp2
 gi_loopw [3] (fun p wr=> ∃k:Nat,p= .int .i64 ((k:Int)-1)∧k≤cd (num e)∧J (Dx (num e) k) wr) (fun p wr=>match p with| .int _ n=>(n+1).toNat| _=>0)
 case atStart=>
  exact⟨_,rfl,au _,h1⟩
 case round=>
  obtain⟨k,rfl,hk,hJ⟩:=hrel;have hcr:=hrd _ _ hJ _ _ _ hcell
  cases k with
  |zero=>
   gi_wp2
   go_end0
   exact⟨⟨_,rfl⟩, .inl hJ⟩
  |succ k=>
   have hw2:((k+1:Nat):Int)-1=(k:Int):=by omega
   rw[hw2]
   gi_wp2
   refine⟨trivial,rfl,(aD.calls (uM he k (by omega)) Tryz.call129 wr rd [_,_] htr (hrd _ _ hJ) ?_).mono ?_⟩
   ·exact .cons (.s e) (.cons (.i _ _) .nil)
   rintro x w2 ⟨v,rfl,hbl,hpr⟩;cases hpr;have hJ2:=hb _ _ _ hJ hbl;obtain⟨fn,tmps,assign,body,hy,hR⟩:=hY [.b ((num e).testBit k)] (Dx (num e) k) [.bool ((num e).testBit k)] w2 hJ2 (.cons (.b _) .nil)
   gi_wp2
   refine⟨rfl,hR.mono ?_⟩;rintro x W3 (⟨rfl,hJ3⟩|⟨rfl,hJx⟩)
   ·have hw3:IntKind.i64.wrap ((k:Int)-1)=(k:Int)-1:=IntWalk.i64_in _ (by omega)
    gi_wp2
    go_roundw
    case rel=>exact⟨k,rfl,by omega,hJ3⟩
    case measure=>simp
   ·gi_wp2
    refine bodyPost_ret (results_none rfl _ _ _) rfl ?_;exact⟨⟨_,rfl⟩, .inr hJx⟩
end Go.Proofs.YtmobkhegihemeaaGreatDoor
namespace Go.Dom
structure pS (a b r0 r1:Nat) (x0 x1 y0 y1:Int):Prop where
 e0:(a:Int)*x0+b*y0=r0
 e1:(a:Int)*x1+b*y1=r1
 g:Nat.gcd r0 r1=Nat.gcd a b
 hx:x1.natAbs*r0+x0.natAbs*r1≤b
 hy:y1.natAbs*r0+y0.natAbs*r1≤a
 bx0:x0.natAbs≤b
 bx1:x1.natAbs≤b
 by0:y0.natAbs≤a+1
 by1:y1.natAbs≤a+1
theorem pS.start {a b:Nat} (hb:0<b):pS a b a b 1 0 0 1:=
 ⟨by omega,by omega,rfl,by simp,by simp,by show 1≤b;omega,by simp,by simp,by simp⟩
theorem Bf {x0 x1:Int} {q r0 r1 B:Nat} (hq:q=r0/r1) (h:x1.natAbs*r0+x0.natAbs*r1≤B):(x0-q*x1).natAbs*r1+x1.natAbs*(r0%r1)≤B:=by
 have h1:(x0-q*x1).natAbs≤x0.natAbs+q*x1.natAbs:=by
  have:=Int.natAbs_sub_le x0 (q*x1)
  rwa[kC,Int.natAbs_natCast]at this
 have h2:=cC r1 h1;have h3:r1*q+r0%r1=r0:=by rw[hq];exact gD r0 r1
 have h4:x1.natAbs*r0=x1.natAbs*(r1*q)+x1.natAbs*(r0%r1):=by rw[←iX,h3]
 have h5:(x0.natAbs+q*x1.natAbs)*r1=x0.natAbs*r1+x1.natAbs*(r1*q):=by
  rw[cr,a7 q,bY,a7 q]
 omega
theorem pS.step {a b r0 r1:Nat} {x0 x1 y0 y1:Int} (h:pS a b r0 r1 x0 x1 y0 y1) (h1:0<r1):pS a b r1 (r0%r1) x1 (x0-(r0/r1:Nat)*x1) y1 (y0-(r0/r1:Nat)*y1):=by
 have hx:=Bf (q:=r0/r1) rfl h.hx;have hy:=Bf (q:=r0/r1) rfl h.hy;have le: ∀{n B:Nat} {m:Nat},n*r1+m≤B→n≤B:=fun{n B m} g=>by
  have:=Nat.le_mul_of_pos_right n h1;omega
 refine⟨h.e1,?_,?_,hx,hy,h.bx1,le hx,h.by1,?_⟩
 ·have e0:=h.e0;have e1:=h.e1;have hd:=gD r0 r1;generalize r0/r1=q at*;generalize r0%r1=t at*;have:(r0:Int)=r1*q+t:=by rw[←hd];simp
  rw[nA,nA];have e3:(a:Int)*(q*x1)=q*(a*x1):=by rw[←kF,qW (a:Int),kF]
  have e4:(b:Int)*(q*y1)=q*(b*y1):=by rw[←kF,qW (b:Int),kF]
  have e5:(q:Int)*(a*x1)+q*(b*y1)=r1*q:=by rw[←kz,e1,qW]
  omega
 ·rw[←h.g,jx r0 r1,kD r1 r0,jx]
 ·have:=le hy;omega
theorem DE {a b:Nat} {X Y:Int} (h0:0≤X) (h:(a:Int)*X+b*Y=1):a*(X.natAbs%b)%b=1%b:=by
 obtain⟨n,rfl⟩:=Int.eq_ofNat_of_zero_le h0;rw[Int.natAbs_natCast,jQ];have e:((a*n:Nat):Int)%b=(1:Int)%b:=by
  have:((a*n:Nat):Int)=1+b*(-Y):=by simp only[Int.natCast_mul,nB];omega
  rw[this,oP]
 exact_mod_cast e
theorem JQ {a m i j:Nat} (hi:i<m) (hj:j<m) (h1:a*i%m=1%m) (h2:a*j%m=1%m):i=j:=by
 have e1:i*(a*j)%m=i%m:=by rw[←jQ,h2,jQ,dP]
 have e2:i*(a*j)%m=j%m:=by rw[←bY,a7 i a,←iV,h1,iV,ko]
 rw[bA hi]at e1;rw[bA hj]at e2;omega
noncomputable def eV (a m:Nat):Nat:= @dite _ (∃i,i<m∧a*i%m=1%m) (Classical.propDecidable _) (fun h=>Classical.choose h) (fun _=>0)
theorem hG {a m i:Nat} (hi:i<m) (h:a*i%m=1%m):eV a m=i:=by
 have hx: ∃i,i<m∧a*i%m=1%m:=⟨i,hi,h⟩;unfold eV;rw[dif_pos hx];obtain⟨g1,g2⟩:=Classical.choose_spec hx;exact JQ g1 hi g2 h
theorem pS.fin {a b g:Nat} {x0 x1 y0 y1:Int} (h:pS a b g 0 x0 x1 y0 y1):g=Nat.gcd a b:=by
 have:=h.g;rwa[AJ]at this
theorem pS.inv {a b:Nat} {x0 x1 y0 y1:Int} (h:pS a b 1 0 x0 x1 y0 y1) (hb:0<b): ∀X:Int,X=(if x0<0 then x0+b else x0)→0≤X∧X≤b∧X.natAbs%b=eV a b:=by
 intro X hX;have b0:=h.bx0;have h0:0≤X:=by rw[hX];split<;>omega
 refine⟨h0,by rw[hX];split<;>omega,(hG (aG _ hb) ?_).symm⟩
 have e0:=h.e0
 by_cases hx:x0<0
 ·rw[if_pos hx]at hX;refine DE (Y:=y0-a) h0 ?_;rw[hX,kz,nA,qW (b:Int) a];omega
 ·rw[if_neg hx]at hX;exact DE (Y:=y0) h0 (by rw[hX];omega)
def Bz:Nat→Nat→Nat→Int→Int→Int→Int→Nat×Int×Int
 |0,r0,_,x0,_,y0,_=>(r0,x0,y0)
 |f+1,r0,r1,x0,x1,y0,y1=>if r1=0 then(r0,x0,y0)else Bz f r1 (r0%r1) x1 (x0-(r0/r1:Nat)*x1) y1 (y0-(r0/r1:Nat)*y1)
theorem BA {a b:Nat}: ∀{f r0 r1:Nat} {x0 x1 y0 y1:Int},r1<f→pS a b r0 r1 x0 x1 y0 y1→ ∃x' y',pS a b (Bz f r0 r1 x0 x1 y0 y1).1 0 (Bz f r0 r1 x0 x1 y0 y1).2.1 x' (Bz f r0 r1 x0 x1 y0 y1).2.2 y'
 |0,_,_,_,_,_,_,h,_=>absurd h (nG _)
 |f+1,r0,r1,x0,x1,y0,y1,h,hE=>by
  unfold Bz;split
  ·rename_i h0;subst h0;exact⟨x1,y1,hE⟩
  ·rename_i h0;exact BA (by have:=aG r0 (show 0<r1 by omega);omega) (hE.step (by omega))
structure O0 (a b g:Nat) (x y:Int):Prop where
 z:b=0→x=1∧y=0
 bx:0<b→x.natAbs≤b
 by':0<b→y.natAbs≤max a 1
 e:(a:Int)*x+b*y=g
 g:g=Nat.gcd a b
theorem O0.base (a:Nat):O0 a 0 a 1 0:=⟨fun _=>⟨rfl,rfl⟩,fun h=>by omega,fun h=>by omega,by simp,by simp⟩
theorem O0.step {a b g:Nat} {x y:Int} (hb:0<b) (h:O0 b (a%b) g x y):O0 a b g y (x-(a/b:Nat)*y):=by
 have hd:=gD a b;have hg:g=Nat.gcd a b:=by rw[h.g,jx a b,kD b a,jx]
 have he:=h.e;have e1:(a:Int)=b*(a/b:Nat)+(a%b:Nat):=by
  have:((b*(a/b)+a%b:Nat):Int)=(a:Int):=by rw[hd]
  rw[←this];simp
 rcases jR (a%b)with h0|h0
 ·obtain⟨rfl,rfl⟩:=h.z h0;refine⟨by omega,by simp,fun _=>by simp;omega,?_,hg⟩
  simp only[ud,Int.sub_zero,Int.mul_one,Int.zero_add,Int.add_zero]at he⊢;exact he
 ·have bx:=h.bx h0;have by1:y.natAbs≤b:=by have:=h.by' h0;omega
  refine⟨by omega,fun _=>by1,fun _=> ?_,?_,hg⟩
  ·have h1:(x-(a/b:Nat)*y).natAbs≤x.natAbs+a/b*y.natAbs:=by
    have:=Int.natAbs_sub_le x ((a/b:Nat)*y)
    rwa[kC,Int.natAbs_natCast]at this
   have h2:=ic (a/b) by1;have h3:a/b*b=b*(a/b):=a7 _ _;omega
  ·generalize a/b=q at*;generalize a%b=t at*;rw[nA,e1,Int.add_mul];have e3:(b:Int)*q*y=b*(q*y):=kF ..;omega
noncomputable def cL (m x:Nat) (ng:Bool) (e:Nat):Nat:=(if ng then eV x m else x)^e%m
def fk (m x:Nat):Prop:= ∃i,i<m∧x*i%m=1%m
theorem fk.inv {m x:Nat} (h:fk m x):eV x m<m∧x*eV x m%m=1%m:=by
 obtain⟨i,h1,h2⟩:=h;rw[hG h1 h2];exact⟨h1,h2⟩
theorem fk.TD {m x:Nat} (h:fk m x) (hm:0<m):fk m (eV x m):=
 ⟨x%m,aG _ hm,by rw[jQ,a7];exact h.inv.2⟩
theorem fk.pow {m x:Nat} (h:fk m x) (hm:0<m) (e:Nat):fk m (x^e%m)∧eV (x^e%m) m=eV x m^e%m:=by
 obtain⟨h1,h2⟩:=h.inv;have key:x^e%m*(eV x m^e%m)%m=1%m:=by
  rw[←cz,←uA,jD,h2,←jD,qY]
 have hl:eV x m^e%m<m:=aG _ hm;exact⟨⟨_,hl,key⟩,hG hl key⟩
theorem fk.inv2 {m x:Nat} (h:fk m x) (hm:0<m):eV (eV x m) m=x%m:=
 hG (aG _ hm) (by rw[jQ,a7];exact h.inv.2)
theorem fk.cL {m x:Nat} (h:fk m x) (hm:0<m) (ng:Bool) (e:Nat):fk m (Dom.cL m x ng e):=by
 unfold Dom.cL;cases ng
 ·exact(h.pow hm e).1
 ·exact((h.TD hm).pow hm e).1
theorem fk.mul {m x y:Nat} (h:fk m x) (g:fk m y) (hm:0<m):fk m (x*y%m):=by
 obtain⟨i,h1,h2⟩:=h;obtain⟨j,g1,g2⟩:=g;refine⟨i*j%m,aG _ hm,?_⟩;rw[←cz];have e:x*y*(i*j)=(x*i)*(y*j):=by
  rw[bY,bY];congr 1;rw[←bY,a7 y i,bY]
 rw[e,cz,h2,g2,←cz,ko]
theorem j7 (m x a b:Nat):(x^a%m)^b%m=x^(a*b)%m:=by rw[←jD,←jb]
theorem HC {m x:Nat} (h:fk m x) (hm:0<m) (n1 n2:Bool) (a b:Nat):cL m (cL m x n1 a) n2 b=cL m x (n1 !=n2) (a*b):=by
 cases n1<;>cases n2
 ·simp only[cL,aW,if_false,bne_self_eq_false,j7]
 ·have:=(h.pow hm a).2;simp only[cL,aW,if_false,if_true,this,j7,Bool.bne_true,bR]
 ·simp only[cL,aW,if_false,if_true,j7,Bool.bne_false]
 ·have h1:=((h.TD hm).pow hm a).2;rw[h.inv2 hm]at h1;simp only[cL,if_true,bne_self_eq_false,aW,if_false,h1];rw[j7,←jD]
theorem sw (m x:Nat) (n:Bool):cL m x n 0=1%m:=by simp[cL]
theorem fA {m x:Nat} (hm:0<m) (h:Nat.gcd x m=1):fk m x:=by
 have key: ∀(n a b:Nat),b≤n→ ∃X Y:Int,(a:Int)*X+b*Y=Nat.gcd a b:=by
  intro n
  induction n with
  |zero=>
   intro a b hb;obtain rfl:b=0:=by omega
   exact⟨1,0,by simp⟩
  |succ n ih=>
   intro a b hb;rcases jR b with rfl|h0
   ·exact⟨1,0,by simp⟩
   ·obtain⟨X,Y,e⟩:=ih b (a%b) (by have:=aG a h0;omega)
    refine⟨Y,X-(a/b:Nat)*Y,?_⟩;have hg:Nat.gcd b (a%b)=Nat.gcd a b:=by rw[jx a b,kD b a,jx]
    rw[←hg,←e];have e1:(a:Int)=b*(a/b:Nat)+(a%b:Nat):=by
     have:((b*(a/b)+a%b:Nat):Int)=(a:Int):=by rw[gD]
     rw[←this];simp
    generalize a/b=q at*;generalize a%b=t at*;rw[nA,e1,Int.add_mul];have e3:(b:Int)*q*Y=b*(q*Y):=kF ..;omega
 obtain⟨X,Y,e⟩:=key m x m (au _);rw[h]at e;refine⟨(X%(m:Int)).toNat,?_,?_⟩
 ·have:=fQ X (show(0:Int)<m by omega)
  have:=fE X (show(m:Int)≠0 by omega)
  omega
 ·have h0:=fE X (show(m:Int)≠0 by omega)
  have e2:((x*(X%(m:Int)).toNat:Nat):Int)%m=(1:Int)%m:=by
   rw[Int.natCast_mul,jP h0,Int.mul_emod,Int.emod_emod_of_dvd _ (Int.dvd_refl _),←Int.mul_emod];have:(x:Int)*X=1+m*(-Y):=by rw[nB];simp at e;omega
   rw[this,oP]
  exact_mod_cast e2
def pp (l:List (Nat×Nat)) (k:Nat):Nat:=l.foldr (fun p a=>p.1^(p.2/2^k)*a) 1
def pb (l:List (Nat×Nat)) (k:Nat):Nat:=l.foldr (fun p a=>p.1^(p.2/2^k%2)*a) 1
theorem tT (p:Nat×Nat) (l:List (Nat×Nat)) (k:Nat):pp (p::l) k=p.1^(p.2/2^k)*pp l k:=rfl
theorem zV (p:Nat×Nat) (l:List (Nat×Nat)) (k:Nat):pb (p::l) k=p.1^(p.2/2^k%2)*pb l k:=rfl
theorem NW (l:List (Nat×Nat)) (p:Nat×Nat) (k:Nat):pb (l++[p]) k=pb l k*p.1^(p.2/2^k%2):=by
 induction l with
 |nil=>simp[pb]
 |cons q l ih=>rw[List.cons_append,zV,zV,ih,bY]
theorem NY (l:List (Nat×Nat)) (k:Nat):pp l k=pp l (k+1)*pp l (k+1)*pb l k:=by
 induction l with
 |nil=>rfl
 |cons p l ih=>
  rw[tT,tT,zV,ih];have e:p.2/2^k=p.2/2^(k+1)+p.2/2^(k+1)+p.2/2^k%2:=by
   have:p.2/2^(k+1)=p.2/2^k/2:=by rw[Nat.pow_succ,dZ]
   omega
  rw[e,ct,ct,←e];generalize p.1^(p.2/2^(k+1))=a;generalize p.1^(p.2/2^k%2)=b;generalize pp l (k+1)=c;generalize pb l k=d;simp only[bY,Nat.mul_left_comm,a7]
theorem RV {l:List (Nat×Nat)} {k:Nat} (h: ∀p∈l,p.2<2^k):pp l k=1:=by
 induction l with
 |nil=>rfl
 |cons p l ih=>
  rw[tT,ih fun q hq=>h q (ja _ hq),gn (h p (q9 ..))];rfl
noncomputable def O6 (M:Nat) (x:Nat) (e:Bool×Bytes):Nat:=if e.1 then eV x M else x
noncomputable def C9 (M:Nat) (l:List (Nat×(Bool×Bytes))):Nat:=pp (l.map fun p=>(O6 M p.1 p.2,num p.2.2)) 0%M
theorem FL (M:Nat):C9 M []=1%M:=rfl
theorem KB (p:Nat×Nat) (l:List (Nat×Nat)):pp (p::l) 0=p.1^p.2*pp l 0:=by rw[tT,Nat.pow_zero,iY]
theorem wP (M:Nat) (x:Nat) (e:Bool×Bytes) (l:List (Nat×(Bool×Bytes))):C9 M ((x,e)::l)=cL M x e.1 (num e.2)*C9 M l%M:=by
 unfold C9 cL;rw[ba,KB,←cz];rfl
theorem FM (M:Nat) (x:Nat) (e:Bool×Bytes):C9 M [(x,e)]=cL M x e.1 (num e.2):=by
 rw[wP,FL,jQ,dP];unfold cL;rw[dt]
end Go.Dom
namespace Go.Proofs.YtmobkhegihemeaaGreatDoor
open Go Go.Dom
set_option maxRecDepth 100000
def zs (x:Int):Bool:=decide (x<0)
def zb (x:Int):Bytes:=aP x.natAbs
abbrev Z (x:Int):PV:= .agg [.b (zs x), .s (zb x)]
def c9:Nat:=340282366920938463463374607431768211456
theorem Ao:c9≤du:=by unfold du c9;decide+kernel
theorem C2:c9*c9≤du:=by unfold du c9;decide+kernel
theorem vB {n:Nat} (h:n<du):aa (aP n)=true:=oI h
theorem kX (n:Nat):zb (n:Int)=aP n:=rfl
theorem kY (n:Nat):zs (n:Int)=false:=by simp[zs]
theorem zS (x:Int):num (zb x)=x.natAbs:=aK _
theorem SG (x:Int):(zb x==([]:Bytes))=decide (x=0):=by
 unfold zb;rw[dx];simp[gI]
theorem SI {x:Int} (h:x.natAbs<du):(aa (zb x)&& !(zs x&&zb x==[]))=true:=by
 rw[SG,show aa (zb x)=true from vB h]
 simp[zs];omega
theorem WH (b:Bool) (n:Nat):(.agg [.b (b&& !(aP n==[])),N n]:PV)=Z (if b then-(n:Int)else n):=by
 by_cases h:n=0
 ·subst h;cases b<;>rfl
 ·have e:(aP n==([]:Bytes))=false:=qz h;cases b
  ·simp[Z,zs,zb]
  ·have:decide (-(n:Int)<0)=true:=decide_eq_true (by omega)
   simp[Z,zs,zb,e,h];omega
theorem US (x y:Int):(if(zs x !=zs y)then-((x.natAbs*y.natAbs:Nat):Int)else((x.natAbs*y.natAbs:Nat):Int))=x*y:=by
 rw[Int.natCast_mul];unfold zs
 by_cases h1:x<0<;>by_cases h2:y<0<;>simp only[h1,h2,decide_true,decide_false,bne_self_eq_false,aW,if_false]
 ·have e1:(x.natAbs:Int)= -x:=by omega
  have e2:(y.natAbs:Int)= -y:=by omega
  rw[e1,e2,Int.neg_mul_neg]
 ·have e1:(x.natAbs:Int)= -x:=by omega
  have e2:(y.natAbs:Int)=y:=by omega
  simp only[Bool.bne_false,if_true];rw[e1,e2,ri,Int.neg_neg]
 ·have e1:(x.natAbs:Int)=x:=by omega
  have e2:(y.natAbs:Int)= -y:=by omega
  simp only[Bool.false_bne,if_true];rw[e1,e2,nB,Int.neg_neg]
 ·have e1:(x.natAbs:Int)=x:=by omega
  have e2:(y.natAbs:Int)=y:=by omega
  rw[e1,e2]
theorem PL {x y:Int} (h:zs x=zs y):(if zs x then-((x.natAbs+y.natAbs:Nat):Int)else((x.natAbs+y.natAbs:Nat):Int))=x+y:=by
 unfold zs at*
 by_cases h1:x<0<;>by_cases h2:y<0<;>simp[h1,h2]at h⊢ <;>omega
theorem LA {x y:Int} (h:zs x≠zs y) (hl:y.natAbs≤x.natAbs):(if zs x then-((x.natAbs-y.natAbs:Nat):Int)else((x.natAbs-y.natAbs:Nat):Int))=x+y:=by
 unfold zs at*
 by_cases h1:x<0<;>by_cases h2:y<0<;>simp[h1,h2]at h⊢ <;>omega
theorem PM {x y:Int} (h:zs x≠zs y) (hl:x.natAbs≤y.natAbs):(if zs y then-((y.natAbs-x.natAbs:Nat):Int)else((y.natAbs-x.natAbs:Nat):Int))=x+y:=by
 rw[Int.add_comm];exact LA (l7 h) hl
theorem UT (y:Int):(if !zs y then-(y.natAbs:Int)else(y.natAbs:Int))= -y:=by
 unfold zs
 by_cases h:y<0<;>simp[h]<;>omega
theorem LC (n m:Nat):((n:Int)/(m:Int)=((n/m:Nat):Int))∧(((n:Int)%(m:Int)).toNat=n%m):=⟨rfl,rfl⟩
theorem LB {n m:Nat} (hm:0<m) (h0:n%m=0):(-(n:Int))/(m:Int)= -((n/m:Nat):Int)∧((-(n:Int))%(m:Int)).toNat=0:=by
 have hd:=gD n m;have e: -(n:Int)=0+(m:Int)*(-((n/m:Nat):Int)):=by
  rw[nB,←Int.natCast_mul];omega
 have hm':(m:Int)≠0:=by omega
 constructor
 ·rw[e,uu _ _ hm'];simp
 ·rw[e,oP];simp
theorem H6 {n m:Nat} (hm:0<m) (h0:n%m≠0):(-(n:Int))/(m:Int)= -((n/m+1:Nat):Int)∧((-(n:Int))%(m:Int)).toNat=m-n%m:=by
 have hd:=gD n m;have hl:=aG n hm;generalize n%m=r at*;have e: -(n:Int)=((m-r:Nat):Int)+(m:Int)*(-((n/m+1:Nat):Int)):=by
  rw[nB,←Int.natCast_mul,iX,dP];omega
 have hm':(m:Int)≠0:=by omega
 have h1:((m-r:Nat):Int)/(m:Int)=0:=uD (by omega) (by omega)
 have h2:((m-r:Nat):Int)%(m:Int)=((m-r:Nat):Int):=Int.emod_eq_of_lt (by omega) (by omega)
 constructor
 ·rw[e,uu _ _ hm',h1,Int.zero_add]
 ·rw[e,oP,h2];omega
theorem jJ {a b:Nat}:(0≤a6 a b)↔b≤a:=by unfold a6;split<;>(try split)<;>omega
end Go.Proofs.YtmobkhegihemeaaGreatDoor
namespace Go.Proofs.YtmobkhegihemeaaGreatDoor
open Go Go.Dom
set_option maxRecDepth 100000
set_option maxHeartbeats 16000000
def jw (k:Bytes) (c:UInt8) (i:Nat):Bytes:=(List.range 64).map fun j=>if j<i then k.getD j 0^^^c else k.getD j 0
def Ar (k:Bytes) (c:UInt8):Bytes:=jw k c 64
def zM (k:Bytes):Bytes:=if k.length>64 then mP k else k
def J2 (k s:Bytes):Bytes:=mP (Ar (zM k) 92++mP (Ar (zM k) 54++s))
theorem ew (k:Bytes) (c:UInt8) (i:Nat):(jw k c i).length=64:=by simp[jw]
theorem qU {k:Bytes} {c:UInt8} {i j:Nat} (h:j<64):(jw k c i).getD j 0=if j<i then k.getD j 0^^^c else k.getD j 0:=by
 simp[jw,aX,h]
theorem C6 {k:Bytes} {c:UInt8} {i:Nat} (h:i<64):(jw k c i).set i (k.getD i 0^^^c)=jw k c (i+1):=by
 apply ry
 ·simp[jw]
 ·intro n h1 h2;rw[List.getElem_set];simp only[jw,List.getElem_map,List.getElem_range]
  by_cases hn:i=n
  ·subst hn;simp
  ·rw[if_neg hn];have:(n<i)=(n<i+1):=by simp;omega
   simp only[this]
theorem FH {k:Bytes} (c:UInt8) (h:k.length≤64):List.take k.length (aC k)++List.drop k.length (List.replicate 64 (AV.v (.i .u8 0)))=aC (jw k c 0):=by
 rw[iD];unfold aC jw;apply ry
 ·simp;omega
 ·intro n h1 h2;simp only[aH,nH]at h2;simp only[List.getElem_map,List.getElem_range,nG,if_false]
  by_cases hn:n<k.length
  ·rw[List.getElem_append_left (by simpa using hn)]
   simp[aX,hn]
  ·rw[List.getElem_append_right (by simpa using hn)]
   simp only[List.getElem_drop,List.getElem_replicate];simp[aX,hn,u8]
theorem iC {l:Bytes} {i:Nat} (h:i<l.length):(aC l).getD i .u= .v (u8 (l.getD i 0)):=by
 simp[aC,aX,h]
theorem ME (l:Bytes) {o:Nat} (c:UInt8) (h:o<l.length):(aC l).take o++(.v (.i .u8 (c.toNat:Int))::(aC l).drop (o+1))=aC (l.set o c):=by
 unfold aC;rw[qV,um];simp[h,u8]
theorem OX (a c:UInt8):BP .u8 (a.toNat:Int) (c.toNat:Int)=((a^^^c).toNat:Int):=by
 have:=Po .u8 rfl (a:=a.toNat) (b:=c.toNat) (by have:=a.toNat_lt;exact this) (by have:=c.toNat_lt;exact this)
 rw[this];simp
theorem P9 {k s:Bytes} (h0:k.length<1000000) (hs:s.length<1000000):aD Tryz.prog 314 [.s k, .s s] (.s (J2 k s)):=by
 have hq:=rK (s:=k) (by omega)
 have hq2:(mP k).length≤64:=by rw[gY];decide
 have hs1:=rK (s:=Ar (zM k) 54++s) (by rw[bC,Ar,ew];omega)
 have hs2:=rK (s:=Ar (zM k) 92++mP (Ar (zM k) 54++s)) (by rw[bC,Ar,ew,gY];omega)
 unfold J2
 by_cases hk:k.length≤64
 ·have e:zM k=k:=by unfold zM;rw[if_neg (by omega)]
  rw[e]at hs1 hs2⊢;clear hq hq2 h0;refine eW Tryz.call314 Tryz.func314 ?_;repeat' first|simp only[go_sem,seval]|refine sB ?_|(first|apply pX|apply bX)<;>intro hc|refine⟨oD,?_⟩|exact oD|fail
  refine aj (α:=Nat) (fun i=>64-i) (fun i=>⟨[(1, .v (.s s)),(5, .p 1004 0 0),(6, .p 1005 0 0),(19,E' i)],[(1005,⟨0,aC (jw k 92 i),false,some 267⟩),(1004,⟨0,aC (jw k 54 i),false,some 267⟩)],_⟩) (fun i=>i≤64) 0 (fun _=>au _) (aL _) ?_ ?_
  ·refine AS.Le.of oD ?_ ?_<;>simp[cl,cj,aF,ar,AV.bd,ai,hk];exact⟨FH 92 hk,FH 54 hk⟩
  ·intro i hi R hR
   by_cases hlt:i<64
   ·have hgo:=hR (i+1) (by omega) (by omega)
    have g1:(aC (jw k 54 i)).getD i .u= .v (.i .u8 ((k.getD i 0).toNat:Int)):=by rw[iC (by rw[ew];exact hlt),qU hlt,if_neg (mc i)];rfl
    have g2:(aC (jw k 92 i)).getD i .u= .v (.i .u8 ((k.getD i 0).toNat:Int)):=by rw[iC (by rw[ew];exact hlt),qU hlt,if_neg (mc i)];rfl
    have g3:=OX (k.getD i 0) 54;have g4:=OX (k.getD i 0) 92;have g5:((54:UInt8).toNat:Int)=54:=rfl;have g6:((92:UInt8).toNat:Int)=92:=rfl;rw[g5]at g3;rw[g6]at g4;repeat' first|simp only[go_sem,seval,g1,g2,g3,g4,ew]|refine sB ?_|(first|apply pX|apply bX)<;>intro hc|refine⟨oD,?_⟩|exact oD|fail
    refine hgo _ ?_;have g7:=ME (jw k 92 i) (o:=i) (k.getD i 0^^^92) (by rw[ew];exact hlt)
    have g8:=ME (jw k 54 i) (o:=i) (k.getD i 0^^^54) (by rw[ew];exact hlt)
    rw[C6 hlt]at g7 g8;refine AS.Le.of oD ?_ ?_<;>simp[cl,cj,aF,ar,AV.bd,ai];exact⟨by simpa using g7,by simpa using g8⟩
   ·obtain rfl:i=64:=by omega
    have t1: ∀c,List.take 64 (aC (jw k c 64))=aC (jw k c 64):=fun c=>bM (by rw[kO,ew];exact au _)
    have t2: ∀l,(∀y,y∈aC l→y.isByte)=True:=fun l=>by
     simp only[eq_iff_iff,iff_true];intro y hy;obtain⟨c,-,rfl⟩:=a5.1 hy;simp[AV.isByte,u8,vX]
    unfold Ar at hs1 hs2⊢;repeat' first|simp only[go_sem,seval,ew,t1,t2,jV,gY]|refine cP hs1 ?_|refine cP hs2 ?_|refine sB ?_|(first|apply pX|apply bX)<;>intro hc|refine⟨oD,?_⟩|exact oD|fail
 ·have e:zM k=mP k:=by unfold zM;rw[if_pos (by omega)]
  rw[e]at hs1 hs2⊢;generalize mP k=q at*;refine eW Tryz.call314 Tryz.func314 ?_;repeat' first|simp only[go_sem,seval]|refine cP hq ?_|refine sB ?_|(first|apply pX|apply bX)<;>intro hc|refine⟨oD,?_⟩|exact oD|fail
  clear hq h0 hk;have hk:=hq2;refine aj (α:=Nat) (fun i=>64-i) (fun i=>⟨[(1, .v (.s s)),(5, .p 1007 0 0),(6, .p 1008 0 0),(19,E' i)],[(1008,⟨0,aC (jw q 92 i),false,some 267⟩),(1007,⟨0,aC (jw q 54 i),false,some 267⟩)],_⟩) (fun i=>i≤64) 0 (fun _=>au _) (aL _) ?_ ?_
  ·refine AS.Le.of oD ?_ ?_<;>simp[cl,cj,aF,ar,AV.bd,ai,hk];exact⟨FH 92 hk,FH 54 hk⟩
  ·intro i hi R hR
   by_cases hlt:i<64
   ·have hgo:=hR (i+1) (by omega) (by omega)
    have g1:(aC (jw q 54 i)).getD i .u= .v (.i .u8 ((q.getD i 0).toNat:Int)):=by rw[iC (by rw[ew];exact hlt),qU hlt,if_neg (mc i)];rfl
    have g2:(aC (jw q 92 i)).getD i .u= .v (.i .u8 ((q.getD i 0).toNat:Int)):=by rw[iC (by rw[ew];exact hlt),qU hlt,if_neg (mc i)];rfl
    have g3:=OX (q.getD i 0) 54;have g4:=OX (q.getD i 0) 92;have g5:((54:UInt8).toNat:Int)=54:=rfl;have g6:((92:UInt8).toNat:Int)=92:=rfl;rw[g5]at g3;rw[g6]at g4;repeat' first|simp only[go_sem,seval,g1,g2,g3,g4,ew]|refine sB ?_|(first|apply pX|apply bX)<;>intro hc|refine⟨oD,?_⟩|exact oD|fail
    refine hgo _ ?_;have g7:=ME (jw q 92 i) (o:=i) (q.getD i 0^^^92) (by rw[ew];exact hlt)
    have g8:=ME (jw q 54 i) (o:=i) (q.getD i 0^^^54) (by rw[ew];exact hlt)
    rw[C6 hlt]at g7 g8;refine AS.Le.of oD ?_ ?_<;>simp[cl,cj,aF,ar,AV.bd,ai];exact⟨by simpa using g7,by simpa using g8⟩
   ·obtain rfl:i=64:=by omega
    have t1: ∀c,List.take 64 (aC (jw q c 64))=aC (jw q c 64):=fun c=>bM (by rw[kO,ew];exact au _)
    have t2: ∀l,(∀y,y∈aC l→y.isByte)=True:=fun l=>by
     simp only[eq_iff_iff,iff_true];intro y hy;obtain⟨c,-,rfl⟩:=a5.1 hy;simp[AV.isByte,u8,vX]
    unfold Ar at hs1 hs2⊢;repeat' first|simp only[go_sem,seval,ew,t1,t2,jV,gY]|refine cP hs1 ?_|refine cP hs2 ?_|refine sB ?_|(first|apply pX|apply bX)<;>intro hc|refine⟨oD,?_⟩|exact oD|fail
theorem Q9 (L:Nat) (h:L≤64):aD Tryz.prog 371 [E L] (E (Lib.l10 L)):=by
 unfold Lib.l10;refine eW Tryz.call371 Tryz.func371 ?_;repeat' first|simp only[go_sem,seval]|refine sB ?_|(first|apply pX|apply bX)<;>intro hc|refine⟨oD,?_⟩|exact oD|fail
 all_goals (rw[Ge _ (by decide)];first|rfl|(congr 1;omega))
theorem O2 (b:Bool):aD Tryz.prog 372 [.b b] (E (if b then 1 else 0)):=by
 cases b
 ·refine eW Tryz.call372 Tryz.func372 ?_;repeat' first|simp only[go_sem,seval]|refine sB ?_|(first|apply pX|apply bX)<;>intro hc|refine⟨oD,?_⟩|exact oD|fail
 ·refine eW Tryz.call372 Tryz.func372 ?_;repeat' first|simp only[go_sem,seval]|refine sB ?_|(first|apply pX|apply bX)<;>intro hc|refine⟨oD,?_⟩|exact oD|fail
theorem RU: ∀q:Fin 20,([.i .u64 1, .i .u64 10, .i .u64 100, .i .u64 1000, .i .u64 10000, .i .u64 100000, .i .u64 1000000, .i .u64 10000000, .i .u64 100000000, .i .u64 1000000000, .i .u64 10000000000, .i .u64 100000000000, .i .u64 1000000000000, .i .u64 10000000000000, .i .u64 100000000000000, .i .u64 1000000000000000, .i .u64 10000000000000000, .i .u64 100000000000000000, .i .u64 1000000000000000000, .i .u64 10000000000000000000]:List PV).getD q.val .fn0= .i .u64 (10^q.val:Nat):=by
 intro q;rcases q with⟨q,hq⟩
 rcases(by omega:q=0∨q=1∨q=2∨q=3∨q=4∨q=5∨q=6∨q=7∨q=8∨q=9∨q=10∨q=11∨q=12∨q=13∨q=14∨q=15∨q=16∨q=17∨q=18∨q=19)with rfl|rfl|rfl|rfl|rfl|rfl|rfl|rfl|rfl|rfl|rfl|rfl|rfl|rfl|rfl|rfl|rfl|rfl|rfl|rfl<;>rfl
theorem lK (u:Nat) (h1:1≤u) (h2:u<18446744073709551616):aD Tryz.prog 341 [.i .u64 (u:Int)] (E (Lib.nDigits u)):=by
 obtain⟨e1,e2⟩:=Lib.numDigits_eq u h1 h2;have hb:=Bb u h2;have hbl:Lib.bitLen u≤64:=by unfold Lib.bitLen;exact Lib.bitLen_le u 64 (au _) h2
 have hl:=Q9 (Lib.bitLen u) hbl;have hp:=RU ⟨Lib.l10 (Lib.bitLen u),by omega⟩
 simp only at hp;have hp: ∀ _:True,_:=fun _=>hp
 have hp2:=cQ (n:=10) (by decide) e2
 by_cases hq:10^Lib.l10 (Lib.bitLen u)≤u
 ·rw[if_pos hq]at e1;rw[←e1];have hd: ∀ _:True,decide ((u:Int)≥((10^Lib.l10 (Lib.bitLen u):Nat):Int))=true:=fun _=>decide_eq_true (by exact_mod_cast hq)
  have hc2:=O2 true;generalize Lib.l10 (Lib.bitLen u)=q at*;generalize 10^q=p at*;refine eW Tryz.call341 Tryz.func341 ?_;repeat' first|simp only[go_sem,seval,hp trivial,hd trivial]|refine cP hb ?_|refine cP hl ?_|refine cP hc2 ?_|refine sB ?_|(first|apply pX|apply bX)<;>intro hc|refine⟨oD,?_⟩|exact oD|fail
  all_goals rfl
 ·rw[if_neg hq]at e1;rw[←e1];have hd: ∀ _:True,decide ((u:Int)≥((10^Lib.l10 (Lib.bitLen u):Nat):Int))=false:=fun _=>decide_eq_false (by intro h;exact hq (by exact_mod_cast h))
  have hc2:=O2 false;generalize Lib.l10 (Lib.bitLen u)=q at*;generalize 10^q=p at*;refine eW Tryz.call341 Tryz.func341 ?_;repeat' first|simp only[go_sem,seval,hp trivial,hd trivial]|refine cP hb ?_|refine cP hl ?_|refine cP hc2 ?_|refine sB ?_|(first|apply pX|apply bX)<;>intro hc|refine⟨oD,?_⟩|exact oD|fail
  all_goals rfl
theorem jW (k n:Nat):(il k n).length=k:=by
 induction k generalizing n with
 |zero=>rfl
 |succ k ih=>simp[il,ih]
theorem MT: ∀(k n:Nat),Lib.nDigits n=k→il k n=Lib.decDigits n:=by
 intro k
 induction k with
 |zero=>intro n h;have:=Lib.nDigits_pos n;omega
 |succ k ih=>
  intro n h
  by_cases hn:n<10
  ·rw[Lib.nDigits_small hn]at h;obtain rfl:k=0:=by omega
   rw[Lib.decDigits_one hn];simp[il,bA hn]
  ·rw[Lib.nDigits_big hn]at h;rw[il,ih (n/10) (by omega)]
   conv=>rhs;rw[Lib.decDigits,dif_neg hn]
theorem P1 (n:Nat) (h1:100≤n) (h2:n<4294967296):aD Tryz.prog 291 [.i .i64 (n:Int), .i .i64 10] (.s (Lib.decDigits n)):=by
 obtain⟨k,hk⟩: ∃k,Lib.nDigits n=k:=⟨_,rfl⟩;have hlt:=Lib.lt_pow_nDigits n;rw[←MT k n hk]
 by_cases g3:n<1000
 ·obtain rfl:k=3:=by rw[←hk];exact Lib.nDigits_unique 2 n (by omega) (by omega)
  have hn:=lK n (by omega) (by omega)
  rw[hk]at hn;have hf:=fun nm=>W0 1009 nm n (by omega)
  have hd:=jW 3 n;refine eW Tryz.call291 Tryz.func291 ?_;repeat' first|simp only[go_sem,seval,←oY,o8,il,u8,eB,List.nil_append,List.cons_append]|refine cP hn ?_|(refine br (hf _) (by simp[ar]) ?_)|refine sB ?_|(first|apply pX|apply bX)<;>intro hc|refine⟨oD,?_⟩|exact oD|fail
 by_cases g4:n<10000
 ·obtain rfl:k=4:=by rw[←hk];exact Lib.nDigits_unique 3 n (by omega) (by omega)
  have hn:=lK n (by omega) (by omega)
  rw[hk]at hn;have hf:=fun nm=>W5 1009 nm n (by omega)
  have hd:=jW 4 n;refine eW Tryz.call291 Tryz.func291 ?_;repeat' first|simp only[go_sem,seval,←oY,o8,il,u8,eB,List.nil_append,List.cons_append]|refine cP hn ?_|(refine br (hf _) (by simp[ar]) ?_)|refine sB ?_|(first|apply pX|apply bX)<;>intro hc|refine⟨oD,?_⟩|exact oD|fail
 by_cases g5:n<100000
 ·obtain rfl:k=5:=by rw[←hk];exact Lib.nDigits_unique 4 n (by omega) (by omega)
  have hn:=lK n (by omega) (by omega)
  rw[hk]at hn;have hf:=fun nm=>W6 1009 nm n (by omega)
  have hd:=jW 5 n;refine eW Tryz.call291 Tryz.func291 ?_;repeat' first|simp only[go_sem,seval,←oY,o8,il,u8,eB,List.nil_append,List.cons_append]|refine cP hn ?_|(refine br (hf _) (by simp[ar]) ?_)|refine sB ?_|(first|apply pX|apply bX)<;>intro hc|refine⟨oD,?_⟩|exact oD|fail
 by_cases g6:n<1000000
 ·obtain rfl:k=6:=by rw[←hk];exact Lib.nDigits_unique 5 n (by omega) (by omega)
  have hn:=lK n (by omega) (by omega)
  rw[hk]at hn;have hf:=fun nm=>W7 1009 nm n (by omega)
  have hd:=jW 6 n;refine eW Tryz.call291 Tryz.func291 ?_;repeat' first|simp only[go_sem,seval,←oY,o8,il,u8,eB,List.nil_append,List.cons_append]|refine cP hn ?_|(refine br (hf _) (by simp[ar]) ?_)|refine sB ?_|(first|apply pX|apply bX)<;>intro hc|refine⟨oD,?_⟩|exact oD|fail
 by_cases g7:n<10000000
 ·obtain rfl:k=7:=by rw[←hk];exact Lib.nDigits_unique 6 n (by omega) (by omega)
  have hn:=lK n (by omega) (by omega)
  rw[hk]at hn;have hf:=fun nm=>W8 1009 nm n (by omega)
  have hd:=jW 7 n;refine eW Tryz.call291 Tryz.func291 ?_;repeat' first|simp only[go_sem,seval,←oY,o8,il,u8,eB,List.nil_append,List.cons_append]|refine cP hn ?_|(refine br (hf _) (by simp[ar]) ?_)|refine sB ?_|(first|apply pX|apply bX)<;>intro hc|refine⟨oD,?_⟩|exact oD|fail
 by_cases g8:n<100000000
 ·obtain rfl:k=8:=by rw[←hk];exact Lib.nDigits_unique 7 n (by omega) (by omega)
  have hn:=lK n (by omega) (by omega)
  rw[hk]at hn;have hf:=fun nm=>W9 1009 nm n (by omega)
  have hd:=jW 8 n;refine eW Tryz.call291 Tryz.func291 ?_;repeat' first|simp only[go_sem,seval,←oY,o8,il,u8,eB,List.nil_append,List.cons_append]|refine cP hn ?_|(refine br (hf _) (by simp[ar]) ?_)|refine sB ?_|(first|apply pX|apply bX)<;>intro hc|refine⟨oD,?_⟩|exact oD|fail
 by_cases g9:n<1000000000
 ·obtain rfl:k=9:=by rw[←hk];exact Lib.nDigits_unique 8 n (by omega) (by omega)
  have hn:=lK n (by omega) (by omega)
  rw[hk]at hn;have hf:=fun nm=>Xa 1009 nm n (by omega)
  have hd:=jW 9 n;refine eW Tryz.call291 Tryz.func291 ?_;repeat' first|simp only[go_sem,seval,←oY,o8,il,u8,eB,List.nil_append,List.cons_append]|refine cP hn ?_|(refine br (hf _) (by simp[ar]) ?_)|refine sB ?_|(first|apply pX|apply bX)<;>intro hc|refine⟨oD,?_⟩|exact oD|fail
 obtain rfl:k=10:=by rw[←hk];exact Lib.nDigits_unique 9 n (by omega) (by omega)
 have hn:=lK n (by omega) (by omega)
 rw[hk]at hn;have hf:=fun nm=>Vu 1009 nm n (by omega)
 have hd:=jW 10 n;refine eW Tryz.call291 Tryz.func291 ?_;repeat' first|simp only[go_sem,seval,←oY,o8,il,u8,eB,List.nil_append,List.cons_append]|refine cP hn ?_|(refine br (hf _) (by simp[ar]) ?_)|refine sB ?_|(first|apply pX|apply bX)<;>intro hc|refine⟨oD,?_⟩|exact oD|fail
theorem MU (n:Nat) (h:n<100):mW n=Lib.decDigits n:=by
 unfold mW
 by_cases g:n<10
 ·rw[if_pos g,Lib.decDigits_one g]
 ·rw[if_neg g,Lib.decDigits_two g h]
theorem EG (n:Nat) (h2:n<4294967296):aD Tryz.prog 121 [.i .i64 (n:Int)] (.s (Lib.decDigits n)):=by
 by_cases h:n<100
 ·rw[←MU n h];exact y3 n h
 have hF:=P1 n (by omega) h2
 have hI:aD Tryz.prog 205 [.i .i64 (n:Int)] (.s (Lib.decDigits n)):=by
  refine eW Tryz.call205 Tryz.func205 ?_;repeat' first|simp only[go_sem,seval]|refine cP hF ?_|refine sB ?_|(first|apply pX|apply bX)<;>intro hc|refine⟨oD,?_⟩|exact oD|fail
 refine eW Tryz.call121 Tryz.func121 ?_;repeat' first|simp only[go_sem,seval]|refine cP hI ?_|refine sB ?_|(first|apply pX|apply bX)<;>intro hc|refine⟨oD,?_⟩|exact oD|fail
end Go.Proofs.YtmobkhegihemeaaGreatDoor
namespace Go.Proofs.YtmobkhegihemeaaGreatDoor
open Go Go.Dom Go.RowKit Go.Shelf
set_option maxRecDepth 100000
set_option maxHeartbeats 16000000
theorem DL: ∀(k u:Nat),u<10^(k+1)→Lib.nDigits u≤k+1:=by
 intro k
 induction k with
 |zero=>intro u h;rw[Lib.nDigits_small (by simpa using h)];exact au _
 |succ k ih=>
  intro u h
  by_cases hu:u<10
  ·rw[Lib.nDigits_small hu];omega
  ·rw[Lib.nDigits_big hu];have:=ih (u/10) (by rw[Nat.pow_succ]at h;omega)
   omega
theorem zm {n:Nat} (h:n<4294967296):(Lib.decDigits n).length≤10:=by
 rw[Lib.decDigits_length];exact DL 9 n (by omega)
def Gz (at' a b:Nat):Bytes:=Lib.decDigits at'++[46]++Lib.decDigits a++[46]++Lib.decDigits b
def y8 (sd:Bytes) (at' a b:Nat):Bytes:=J2 sd (Gz at' a b)
def Gy (sd:Bytes) (at' a:Nat) (b:Nat):Nat→List (List PV)
 |0=>[]
 |k+1=>[.s (y8 sd at' a b)]::Gy sd at' a (b+1) k
theorem GA {vs:PV} {sd:Bytes} {at' a k:Nat} (hsd:sd.length<1000000) (hk:k<1000000) (ha:at'<4294967296) (ha2:a<4294967296):UU Tryz.prog 313 [.pt (.agg [vs, .s sd, .i .i64 at']) 0, .pt (.agg [.i .i64 a]) 0] false (Gy sd at' a 0 k):=by
 refine⟨Tryz.call313,?_⟩;intro w rd cvs l J Jx htr hcaps hrd hb hbx hY hfin h0;have hfin:=hfin rfl;obtain⟨p,us,rfl,hp,hcaps⟩:=hcaps.eR;obtain⟨q,us,rfl,hq,hnil⟩:=hcaps.eR;obtain rfl:=hnil.dq;obtain⟨bp,op,rfl,c1,c2⟩: ∃bp op,p= .pointer (some ⟨bp,op,none⟩)∧rd bp (op+1)=some (.string ⟨sd.toArray⟩)∧rd bp (op+2)=some (.int .i64 at'):=by
  cases hp with
  |pt x o vs' bk of h1 hl hr h=>
   have hv: ∀i,i<3→ ∃v,vs'[i]?=some v:=fun i hi=>⟨_,aU (by have:vs'.length=3:=hl.symm;omega)⟩
   obtain⟨a1,b1⟩:=hv 1 (by decide)
   obtain⟨a2,b2⟩:=hv 2 (by decide)
   have q1:=h 1 _ _ rfl b1;have q2:=h 2 _ _ rfl b2
   cases q1;cases q2
   exact⟨bk,of,rfl,hr 1 _ b1,hr 2 _ b2⟩
 obtain⟨bq,oq,rfl,c3⟩: ∃bq oq,q= .pointer (some ⟨bq,oq,none⟩)∧rd bq oq=some (.int .i64 a):=by
  cases hq with
  |pt x o vs' bk of h1 hl hr h=>
   obtain⟨v,rfl⟩:=nC.1 (show vs'.length=1 from hl.symm)
   have:=h 0 _ v rfl rfl;cases this;exact⟨bk,of,rfl,hr 0 _ rfl⟩
 refine callsIn_of_wp Tryz.func313 rfl trivial ?_;simp only[Tryz.ntmps313,kx,List.length_cons,List.length_nil,Nat.reduceAdd,Nat.reduceSub,Array.replicate_succ,Array.replicate_zero,List.push_toArray,List.append_toArray,List.nil_append,List.cons_append]
 gi_wp2
 gi_loopw [4] (fun p wr=> ∃b:Nat,p= .int .i64 (b:Int)∧b≤k∧J (Gy sd at' a b (k-b)) wr) (fun p wr=>match p with| .int _ n=>k-n.toNat| _=>0)
 case atStart=>
  exact⟨0,rfl,aL _,h0⟩
 case round=>
  obtain⟨b,rfl,hbk,hJ⟩:=hrel;have hlt:b<k:=by
   rcases ny b k with h|h
   ·exact h
   ·have:k-b=0:=by omega
    rw[this]at hJ;exact(hfin trivial _ hJ).elim
  obtain⟨m,hm⟩: ∃m,k-b=m+1:=⟨k-b-1,by omega⟩
  rw[hm]at hJ;change J ([.s (J2 sd (Gz at' a b))]::Gy sd at' a (b+1) m) wr at hJ;have h1:=EG at' ha;have h2:=EG a ha2;have h3:=EG b (by omega)
  have l1:=zm ha;have l2:=zm ha2;have l3:=zm (n:=b) (by omega)
  have hlN:(Gz at' a b).length<1000000:=by simp[Gz];omega
  refine wpIn_seq (wpIn_block (wpIn_seq ?_));refine wpIn_mono (Hx mixed (rd:=rd) (pvs:=[(1, .pt (.agg [vs, .s sd, .i .i64 at']) 0),(2, .pt (.agg [.i .i64 a]) 0),(4, .i .i64 b)]) (out:=[(5, .s (Gz at' a b))]) (iL.1 26 _ _ (by cbv)) rfl htr (hrd _ _ hJ) ?hp (CW.start ?aw)) ?cont
  case hp=>
   intro p hm;simp only[bL,ij,or_false]at hm;rcases hm with rfl|rfl|rfl
   ·exact hp
   ·exact hq
   ·exact .i _ _
  case aw=>
   simp only[go_sem,seval];repeat' first|simp only[go_sem,seval,bC]|refine cP h1 ?_|refine cP h2 ?_|refine cP h3 ?_|refine sB ?_|(first|apply pX|apply bX)<;>intro hc|refine⟨oD,?_⟩|exact oD|fail
   all_goals simp[Gz]
  case cont=>
   rintro e ⟨t,df⟩ W2 ⟨rfl,⟨hdf,hsz,hbl,hout⟩,hkp⟩;have k0:=hkp.at 0 rfl;have k1:=hkp.at 1 rfl;have k2:=hkp.at 2 rfl;have k3:=hkp.at 3 rfl;have k4:=hkp.at 4 rfl;have k5:=hout _ (cO.2 rfl);have hl:=Mk hsz;simp only[kx,List.length_cons,List.length_nil,cW,Nat.reduceAdd]at hl;rw[show List.range 26=[0,1,2,3,4,5,6,7,8,9,10,11,12,13,14,15,16,17,18,19,20,21,22,23,24,25]from rfl]at hl
   simp only[ba,bG]at hl;change t.getD 0 undef=Value.func (Fn.yield l) #[] #[]at k0;change t.getD 1 undef=Value.pointer (some ⟨bp,op,none⟩)at k1;change t.getD 2 undef=Value.pointer (some ⟨bq,oq,none⟩)at k2;change t.getD 3 undef=undef at k3;change t.getD 4 undef=Value.int .i64 b at k4;change PR _ _ (t.getD 5 undef)at k5;rw[k0,k1,k2,k3,k4]at hl;generalize t.getD 5 undef=v5 at hl k5;cases k5;obtain rfl:df=[]:=hdf;rw[hl];clear hl k0 k1 k2 k3 k4 hsz hout hkp;simp only[Exit.then];have hJ2:=hb _ _ _ hJ hbl;have d4:=hrd _ _ hJ2 _ _ _ (c1)
   gi_wp2
   refine⟨trivial,rfl,(aD.calls (P9 hsd hlN) Tryz.call314 W2 rd [_,_] htr (hrd _ _ hJ2) ?_).mono ?_⟩
   ·exact .cons (.s _) (.cons (.s _) .nil)
   rintro x W3 ⟨v,rfl,hbl3,hpr⟩;cases hpr;have hJ3:=hb _ _ _ hJ2 hbl3;obtain⟨fn,tmps,assign,body,hy,hR⟩:=hY _ _ _ W3 hJ3 (.cons (.s _) .nil)
   gi_wp2
   refine⟨rfl,hR.mono ?_⟩;rintro x W4 (⟨rfl,hJ5⟩|⟨rfl,hJx⟩)
   ·have hw3:IntKind.i64.wrap ((b:Int)+1)=(b:Int)+1:=IntWalk.i64_in _ (by omega)
    gi_wp2
    refine⟨⟨b+1,by push_cast;rfl,by omega,by rw[show k-(b+1)=m from by omega];exact hJ5⟩,?_⟩
    ·show k-((b:Int)+1).toNat<k-(b:Int).toNat;omega
   ·gi_wp2
    refine bodyPost_ret (results_none rfl _ _ _) rfl ?_;exact⟨⟨_,rfl⟩, .inr hJx⟩
end Go.Proofs.YtmobkhegihemeaaGreatDoor
