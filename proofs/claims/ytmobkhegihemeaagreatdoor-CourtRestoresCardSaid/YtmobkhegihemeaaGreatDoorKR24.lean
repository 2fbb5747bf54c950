/-
  Part of the proof, part KR24. Own work.
-/
import Derived.RangeFuncKeeps
import Derived.RangeFuncLeaves
import Derived.Shelf.Abstract
import Derived.WalkKit
import Derived.OwnWalkIn
import Derived.TacticsInMore
import Derived.LoopNIn
import Derived.LoopIn
import Derived.Test.YtmobkhegihemeaaGreatDoorKR21
import Derived.Test.YtmobkhegihemeaaGreatDoorKR23
set_option linter.all false
namespace Go.Proofs.YtmobkhegihemeaaGreatDoor
open Go Go.Dom Go.RowKit Go.Shelf
set_option maxRecDepth 100000
set_option maxHeartbeats 4000000
theorem aB.calls {P:Program} [aV P] {f:FuncId} {args:List PV} {r:PV} (h:aB P f args r) (he:Go.Dom.Enters P f f) (w:World) (rd:Rd) (vs:List Value) (h1: ∀b o v,TR P b o=some v→rd b o=some v) (h2: ∀b o v,rd b o=some v→w.cell? ⟨b,o,none⟩=some v) (h3:aL (PR rd) args vs):
  CallsIn Fence.wide 0 P f vs.toArray w fun e w'=> ∃v,e= .returned v∧Below w.heap.size w w'∧PR (cX rd w w') r v:=by
 obtain⟨g,hg,hc⟩:=h;have:g=f:=by
  have a:=hg #[] w;rw[he #[] w]at a
  cases a;rfl
 subst this;exact callsIn_wide.2 (hc w rd vs h1 h2 h3)
def yK (n:Nat):Nat→List (List PV)
 |0=>[]
 |k+1=>[.b (n.testBit k)]::yK n k
theorem BZ (e:Bytes) (he:aa e=true):P5 Tryz.prog 239 [.pt (.agg [.s e]) 0] true (yK (num e) (dh (num e))):=by
 refine⟨Tryz.call239,?_⟩;intro w rd cvs l J Jx htr hcaps hrd hb hbx hY _ h0;obtain⟨p,us,rfl,hp,hnil⟩:=hcaps.cU;obtain rfl:=hnil.bM;obtain⟨bk,of,rfl,hcell⟩: ∃bk of,p= .pointer (some ⟨bk,of,none⟩)∧rd bk of=some (.string ⟨e.toArray⟩):=by
  cases hp with
  |pt x o vs bk of h1 hl hr h=>
   obtain⟨v,rfl⟩:=List.length_eq_one_iff.1 (show vs.length=1 from hl.symm)
   have:=h 0 (.s e) v rfl rfl;cases this;exact⟨bk,of,rfl,hr 0 _ rfl⟩
 refine callsIn_of_wp Tryz.func239 rfl trivial ?_;simp only[Tryz.ntmps239,List.size_toArray,List.length_cons,List.length_nil,Nat.reduceAdd,Nat.reduceSub,Array.replicate_succ,Array.replicate_zero,List.push_toArray,List.append_toArray,List.nil_append,List.cons_append];have hc0:=hrd _ _ h0 _ _ _ hcell
 gi_wp2
 refine⟨trivial,rfl,(aB.calls (oO he) Tryz.call126 w rd [_] htr (hrd _ _ h0) ?_).mono ?_⟩
 ·exact .cons (.s e) .nil
 rintro x w1 ⟨v,rfl,hbl,hpr⟩;cases hpr;have h1:=hb _ _ _ h0 hbl;clear hbl h0 hc0;have hbd:dh (num e)<2^60:=by
  have hl:=dE he;have:=bR e;unfold dh;split
  ·decide
  ·rename_i h0;have h1:num e<2^(8*e.length):=by rw[Nat.pow_mul];exact this
   have h2:=(Nat.log2_lt h0).2 h1;omega
 have hw:IntKind.i64.wrap ((dh (num e):Int)-1)=(dh (num e):Int)-1:=IntWalk.i64_in _ (by omega)
 gi_wp2
 gi_loopw [3] (fun p wr=> ∃k:Nat,p= .int .i64 ((k:Int)-1)∧k≤dh (num e)∧J (yK (num e) k) wr) (fun p wr=>match p with| .int _ n=>(n+1).toNat| _=>0)
 case atStart=>
  exact⟨_,rfl,Nat.le_refl _,h1⟩
 case round=>
  obtain⟨k,rfl,hk,hJ⟩:=hrel;have hcr:=hrd _ _ hJ _ _ _ hcell
  cases k with
  |zero=>
   gi_wp2
   go_end0
   exact⟨⟨_,rfl⟩, .inl hJ⟩
  |succ k=>
   have hw2:((k+1:Nat):Int)-1=(k:Int):=by omega
   rw[hw2]
   gi_wp2
   refine⟨trivial,rfl,(aB.calls (pj he k (by omega)) Tryz.call129 wr rd [_,_] htr (hrd _ _ hJ) ?_).mono ?_⟩
   ·exact .cons (.s e) (.cons (.i _ _) .nil)
   rintro x w2 ⟨v,rfl,hbl,hpr⟩;cases hpr;have hJ2:=hb _ _ _ hJ hbl;obtain⟨fn,tmps,assign,body,hy,hR⟩:=hY [.b ((num e).testBit k)] (yK (num e) k) [.bool ((num e).testBit k)] w2 hJ2 (.cons (.b _) .nil)
   gi_wp2
   refine⟨rfl,hR.mono ?_⟩;rintro x W3 (⟨rfl,hJ3⟩|⟨rfl,hJx⟩)
   ·have hw3:IntKind.i64.wrap ((k:Int)-1)=(k:Int)-1:=IntWalk.i64_in _ (by omega)
    gi_wp2
    go_roundw
    case rel=>exact⟨k,rfl,by omega,hJ3⟩
    case measure=>simp
   ·gi_wp2
    refine bodyPost_ret (results_none rfl _ _ _) rfl ?_;exact⟨⟨_,rfl⟩, .inr hJx⟩
end Go.Proofs.YtmobkhegihemeaaGreatDoor
namespace Go.Proofs.YtmobkhegihemeaaGreatDoor
open Go Go.Dom
set_option maxRecDepth 100000
set_option maxHeartbeats 16000000
def fD (k:Bytes) (c:UInt8) (i:Nat):Bytes:=(List.range 64).map fun j=>if j<i then k.getD j 0^^^c else k.getD j 0
def vk (k:Bytes) (c:UInt8):Bytes:=fD k c 64
def uy (k:Bytes):Bytes:=if k.length>64 then jj k else k
def Fo (k s:Bytes):Bytes:=jj (vk (uy k) 92++jj (vk (uy k) 54++s))
theorem cF (k:Bytes) (c:UInt8) (i:Nat):(fD k c i).length=64:=by simp[fD]
theorem mP {k:Bytes} {c:UInt8} {i j:Nat} (h:j<64):(fD k c i).getD j 0=if j<i then k.getD j 0^^^c else k.getD j 0:=by
 simp[fD,List.getD_eq_getElem?_getD,h]
theorem x9 {k:Bytes} {c:UInt8} {i:Nat} (h:i<64):(fD k c i).set i (k.getD i 0^^^c)=fD k c (i+1):=by
 apply List.ext_getElem
 ·simp[fD]
 ·intro n h1 h2;rw[List.getElem_set];simp only[fD,List.getElem_map,List.getElem_range]
  by_cases hn:i=n
  ·subst hn;simp
  ·rw[if_neg hn];have:(n<i)=(n<i+1):=by simp;omega
   simp only[this]
theorem Ba {k:Bytes} (c:UInt8) (h:k.length≤64):List.take k.length (ay k)++List.drop k.length (List.replicate 64 (AV.v (.i .u8 0)))=ay (fD k c 0):=by
 rw[eK];unfold ay fD;apply List.ext_getElem
 ·simp;omega
 ·intro n h1 h2;simp only[List.length_map,List.length_range]at h2;simp only[List.getElem_map,List.getElem_range,Nat.not_lt_zero,if_false]
  by_cases hn:n<k.length
  ·rw[List.getElem_append_left (by simpa using hn)]
   simp[List.getD_eq_getElem?_getD,hn]
  ·rw[List.getElem_append_right (by simpa using hn)]
   simp only[List.getElem_drop,List.getElem_replicate];simp[List.getD_eq_getElem?_getD,hn,u8]
theorem eJ {l:Bytes} {i:Nat} (h:i<l.length):(ay l).getD i .u= .v (u8 (l.getD i 0)):=by
 simp[ay,List.getD_eq_getElem?_getD,h]
theorem HV (l:Bytes) {o:Nat} (c:UInt8) (h:o<l.length):(ay l).take o++(.v (.i .u8 (c.toNat:Int))::(ay l).drop (o+1))=ay (l.set o c):=by
 unfold ay;rw[List.map_set,List.set_eq_take_append_cons_drop];simp[h,u8]
theorem Kb (a c:UInt8):wO .u8 (a.toNat:Int) (c.toNat:Int)=((a^^^c).toNat:Int):=by
 have:=Kx .u8 rfl (a:=a.toNat) (b:=c.toNat) (by have:=a.toNat_lt;exact this) (by have:=c.toNat_lt;exact this)
 rw[this];simp
theorem La {k s:Bytes} (h0:k.length<1000000) (hs:s.length<1000000):aB Tryz.prog 314 [.s k, .s s] (.s (Fo k s)):=by
 have hq:=mX (s:=k) (by omega)
 have hq2:(jj k).length≤64:=by rw[ep];decide
 have hs1:=mX (s:=vk (uy k) 54++s) (by rw[List.length_append,vk,cF];omega)
 have hs2:=mX (s:=vk (uy k) 92++jj (vk (uy k) 54++s)) (by rw[List.length_append,vk,cF,ep];omega)
 unfold Fo
 by_cases hk:k.length≤64
 ·have e:uy k=k:=by unfold uy;rw[if_neg (by omega)]
  rw[e]at hs1 hs2⊢;clear hq hq2 h0;refine eW Tryz.call314 Tryz.func314 ?_;repeat' first|simp only[go_sem,seval]|refine sB ?_|(first|apply pX|apply bX)<;>intro hc|refine⟨oD,?_⟩|exact oD|fail
  refine aj (α:=Nat) (fun i=>64-i) (fun i=>⟨[(1, .v (.s s)),(5, .p 1004 0 0),(6, .p 1005 0 0),(19,E' i)],[(1005,⟨0,ay (fD k 92 i),false,some 267⟩),(1004,⟨0,ay (fD k 54 i),false,some 267⟩)],_⟩) (fun i=>i≤64) 0 (fun _=>Nat.le_refl _) (Nat.zero_le _) ?_ ?_
  ·refine AS.Le.of oD ?_ ?_<;>simp[bL,bK,aD,ai,AV.bd,ah,hk];exact⟨Ba 92 hk,Ba 54 hk⟩
  ·intro i hi R hR
   by_cases hlt:i<64
   ·have hgo:=hR (i+1) (by omega) (by omega)
    have g1:(ay (fD k 54 i)).getD i .u= .v (.i .u8 ((k.getD i 0).toNat:Int)):=by rw[eJ (by rw[cF];exact hlt),mP hlt,if_neg (Nat.lt_irrefl i)];rfl
    have g2:(ay (fD k 92 i)).getD i .u= .v (.i .u8 ((k.getD i 0).toNat:Int)):=by rw[eJ (by rw[cF];exact hlt),mP hlt,if_neg (Nat.lt_irrefl i)];rfl
    have g3:=Kb (k.getD i 0) 54;have g4:=Kb (k.getD i 0) 92;have g5:((54:UInt8).toNat:Int)=54:=rfl;have g6:((92:UInt8).toNat:Int)=92:=rfl;rw[g5]at g3;rw[g6]at g4;repeat' first|simp only[go_sem,seval,g1,g2,g3,g4,cF]|refine sB ?_|(first|apply pX|apply bX)<;>intro hc|refine⟨oD,?_⟩|exact oD|fail
    refine hgo _ ?_;have g7:=HV (fD k 92 i) (o:=i) (k.getD i 0^^^92) (by rw[cF];exact hlt)
    have g8:=HV (fD k 54 i) (o:=i) (k.getD i 0^^^54) (by rw[cF];exact hlt)
    rw[x9 hlt]at g7 g8;refine AS.Le.of oD ?_ ?_<;>simp[bL,bK,aD,ai,AV.bd,ah];exact⟨by simpa using g7,by simpa using g8⟩
   ·obtain rfl:i=64:=by omega
    have t1: ∀c,List.take 64 (ay (fD k c 64))=ay (fD k c 64):=fun c=>List.take_of_length_le (by rw[fk,cF];exact Nat.le_refl _)
    have t2: ∀l,(∀y,y∈ay l→y.isByte)=True:=fun l=>by
     simp only[eq_iff_iff,iff_true];intro y hy;obtain⟨c,-,rfl⟩:=List.mem_map.1 hy;simp[AV.isByte,u8,qe]
    unfold vk at hs1 hs2⊢;repeat' first|simp only[go_sem,seval,cF,t1,t2,fK,ep]|refine cP hs1 ?_|refine cP hs2 ?_|refine sB ?_|(first|apply pX|apply bX)<;>intro hc|refine⟨oD,?_⟩|exact oD|fail
 ·have e:uy k=jj k:=by unfold uy;rw[if_pos (by omega)]
  rw[e]at hs1 hs2⊢;generalize jj k=q at*;refine eW Tryz.call314 Tryz.func314 ?_;repeat' first|simp only[go_sem,seval]|refine cP hq ?_|refine sB ?_|(first|apply pX|apply bX)<;>intro hc|refine⟨oD,?_⟩|exact oD|fail
  clear hq h0 hk;have hk:=hq2;refine aj (α:=Nat) (fun i=>64-i) (fun i=>⟨[(1, .v (.s s)),(5, .p 1007 0 0),(6, .p 1008 0 0),(19,E' i)],[(1008,⟨0,ay (fD q 92 i),false,some 267⟩),(1007,⟨0,ay (fD q 54 i),false,some 267⟩)],_⟩) (fun i=>i≤64) 0 (fun _=>Nat.le_refl _) (Nat.zero_le _) ?_ ?_
  ·refine AS.Le.of oD ?_ ?_<;>simp[bL,bK,aD,ai,AV.bd,ah,hk];exact⟨Ba 92 hk,Ba 54 hk⟩
  ·intro i hi R hR
   by_cases hlt:i<64
   ·have hgo:=hR (i+1) (by omega) (by omega)
    have g1:(ay (fD q 54 i)).getD i .u= .v (.i .u8 ((q.getD i 0).toNat:Int)):=by rw[eJ (by rw[cF];exact hlt),mP hlt,if_neg (Nat.lt_irrefl i)];rfl
    have g2:(ay (fD q 92 i)).getD i .u= .v (.i .u8 ((q.getD i 0).toNat:Int)):=by rw[eJ (by rw[cF];exact hlt),mP hlt,if_neg (Nat.lt_irrefl i)];rfl
    have g3:=Kb (q.getD i 0) 54;have g4:=Kb (q.getD i 0) 92;have g5:((54:UInt8).toNat:Int)=54:=rfl;have g6:((92:UInt8).toNat:Int)=92:=rfl;rw[g5]at g3;rw[g6]at g4;repeat' first|simp only[go_sem,seval,g1,g2,g3,g4,cF]|refine sB ?_|(first|apply pX|apply bX)<;>intro hc|refine⟨oD,?_⟩|exact oD|fail
    refine hgo _ ?_;have g7:=HV (fD q 92 i) (o:=i) (q.getD i 0^^^92) (by rw[cF];exact hlt)
    have g8:=HV (fD q 54 i) (o:=i) (q.getD i 0^^^54) (by rw[cF];exact hlt)
    rw[x9 hlt]at g7 g8;refine AS.Le.of oD ?_ ?_<;>simp[bL,bK,aD,ai,AV.bd,ah];exact⟨by simpa using g7,by simpa using g8⟩
   ·obtain rfl:i=64:=by omega
    have t1: ∀c,List.take 64 (ay (fD q c 64))=ay (fD q c 64):=fun c=>List.take_of_length_le (by rw[fk,cF];exact Nat.le_refl _)
    have t2: ∀l,(∀y,y∈ay l→y.isByte)=True:=fun l=>by
     simp only[eq_iff_iff,iff_true];intro y hy;obtain⟨c,-,rfl⟩:=List.mem_map.1 hy;simp[AV.isByte,u8,qe]
    unfold vk at hs1 hs2⊢;repeat' first|simp only[go_sem,seval,cF,t1,t2,fK,ep]|refine cP hs1 ?_|refine cP hs2 ?_|refine sB ?_|(first|apply pX|apply bX)<;>intro hc|refine⟨oD,?_⟩|exact oD|fail
theorem Mf (L:Nat) (h:L≤64):aB Tryz.prog 371 [E L] (E (Lib.l10 L)):=by
 unfold Lib.l10;refine eW Tryz.call371 Tryz.func371 ?_;repeat' first|simp only[go_sem,seval]|refine sB ?_|(first|apply pX|apply bX)<;>intro hc|refine⟨oD,?_⟩|exact oD|fail
 all_goals (rw[Int.fdiv_eq_ediv_of_nonneg _ (by decide)];first|rfl|(congr 1;omega))
theorem Kg (b:Bool):aB Tryz.prog 372 [.b b] (E (if b then 1 else 0)):=by
 cases b
 ·refine eW Tryz.call372 Tryz.func372 ?_;repeat' first|simp only[go_sem,seval]|refine sB ?_|(first|apply pX|apply bX)<;>intro hc|refine⟨oD,?_⟩|exact oD|fail
 ·refine eW Tryz.call372 Tryz.func372 ?_;repeat' first|simp only[go_sem,seval]|refine sB ?_|(first|apply pX|apply bX)<;>intro hc|refine⟨oD,?_⟩|exact oD|fail
theorem M9: ∀q:Fin 20,([.i .u64 1, .i .u64 10, .i .u64 100, .i .u64 1000, .i .u64 10000, .i .u64 100000, .i .u64 1000000, .i .u64 10000000, .i .u64 100000000, .i .u64 1000000000, .i .u64 10000000000, .i .u64 100000000000, .i .u64 1000000000000, .i .u64 10000000000000, .i .u64 100000000000000, .i .u64 1000000000000000, .i .u64 10000000000000000, .i .u64 100000000000000000, .i .u64 1000000000000000000, .i .u64 10000000000000000000]:List PV).getD q.val .fn0= .i .u64 (10^q.val:Nat):=by
 intro q;rcases q with⟨q,hq⟩
 rcases(by omega:q=0∨q=1∨q=2∨q=3∨q=4∨q=5∨q=6∨q=7∨q=8∨q=9∨q=10∨q=11∨q=12∨q=13∨q=14∨q=15∨q=16∨q=17∨q=18∨q=19)with rfl|rfl|rfl|rfl|rfl|rfl|rfl|rfl|rfl|rfl|rfl|rfl|rfl|rfl|rfl|rfl|rfl|rfl|rfl|rfl<;>rfl
theorem iJ (u:Nat) (h1:1≤u) (h2:u<18446744073709551616):aB Tryz.prog 341 [.i .u64 (u:Int)] (E (Lib.nDigits u)):=by
 obtain⟨e1,e2⟩:=Lib.numDigits_eq u h1 h2;have hb:=vE u h2;have hbl:Lib.bitLen u≤64:=by unfold Lib.bitLen;exact Lib.bitLen_le u 64 (Nat.le_refl _) h2
 have hl:=Mf (Lib.bitLen u) hbl;have hp:=M9 ⟨Lib.l10 (Lib.bitLen u),by omega⟩
 simp only at hp;have hp: ∀ _:True,_:=fun _=>hp
 have hp2:=Nat.pow_le_pow_right (n:=10) (by decide) e2
 by_cases hq:10^Lib.l10 (Lib.bitLen u)≤u
 ·rw[if_pos hq]at e1;rw[←e1];have hd: ∀ _:True,decide ((u:Int)≥((10^Lib.l10 (Lib.bitLen u):Nat):Int))=true:=fun _=>decide_eq_true (by exact_mod_cast hq)
  have hc2:=Kg true;generalize Lib.l10 (Lib.bitLen u)=q at*;generalize 10^q=p at*;refine eW Tryz.call341 Tryz.func341 ?_;repeat' first|simp only[go_sem,seval,hp trivial,hd trivial]|refine cP hb ?_|refine cP hl ?_|refine cP hc2 ?_|refine sB ?_|(first|apply pX|apply bX)<;>intro hc|refine⟨oD,?_⟩|exact oD|fail
  all_goals rfl
 ·rw[if_neg hq]at e1;rw[←e1];have hd: ∀ _:True,decide ((u:Int)≥((10^Lib.l10 (Lib.bitLen u):Nat):Int))=false:=fun _=>decide_eq_false (by intro h;exact hq (by exact_mod_cast h))
  have hc2:=Kg false;generalize Lib.l10 (Lib.bitLen u)=q at*;generalize 10^q=p at*;refine eW Tryz.call341 Tryz.func341 ?_;repeat' first|simp only[go_sem,seval,hp trivial,hd trivial]|refine cP hb ?_|refine cP hl ?_|refine cP hc2 ?_|refine sB ?_|(first|apply pX|apply bX)<;>intro hc|refine⟨oD,?_⟩|exact oD|fail
  all_goals rfl
theorem fL (k n:Nat):(ey k n).length=k:=by
 induction k generalizing n with
 |zero=>rfl
 |succ k ih=>simp[ey,ih]
theorem Ib: ∀(k n:Nat),Lib.nDigits n=k→ey k n=Lib.decDigits n:=by
 intro k
 induction k with
 |zero=>intro n h;have:=Lib.nDigits_pos n;omega
 |succ k ih=>
  intro n h
  by_cases hn:n<10
  ·rw[Lib.nDigits_small hn]at h;obtain rfl:k=0:=by omega
   rw[Lib.decDigits_one hn];simp[ey,Nat.mod_eq_of_lt hn]
  ·rw[Lib.nDigits_big hn]at h;rw[ey,ih (n/10) (by omega)]
   conv=>rhs;rw[Lib.decDigits,dif_neg hn]
theorem K1 (n:Nat) (h1:100≤n) (h2:n<4294967296):aB Tryz.prog 291 [.i .i64 (n:Int), .i .i64 10] (.s (Lib.decDigits n)):=by
 obtain⟨k,hk⟩: ∃k,Lib.nDigits n=k:=⟨_,rfl⟩;have hlt:=Lib.lt_pow_nDigits n;rw[←Ib k n hk]
 by_cases g3:n<1000
 ·obtain rfl:k=3:=by rw[←hk];exact Lib.nDigits_unique 2 n (by omega) (by omega)
  have hn:=iJ n (by omega) (by omega)
  rw[hk]at hn;have hf:=fun nm=>Sj 1009 nm n (by omega)
  have hd:=fL 3 n;refine eW Tryz.call291 Tryz.func291 ?_;repeat' first|simp only[go_sem,seval,←kG,kM,ey,u8,List.map_append,List.nil_append,List.cons_append]|refine cP hn ?_|(refine aP (hf _) (by simp[ai]) ?_)|refine sB ?_|(first|apply pX|apply bX)<;>intro hc|refine⟨oD,?_⟩|exact oD|fail
 by_cases g4:n<10000
 ·obtain rfl:k=4:=by rw[←hk];exact Lib.nDigits_unique 3 n (by omega) (by omega)
  have hn:=iJ n (by omega) (by omega)
  rw[hk]at hn;have hf:=fun nm=>Sk 1009 nm n (by omega)
  have hd:=fL 4 n;refine eW Tryz.call291 Tryz.func291 ?_;repeat' first|simp only[go_sem,seval,←kG,kM,ey,u8,List.map_append,List.nil_append,List.cons_append]|refine cP hn ?_|(refine aP (hf _) (by simp[ai]) ?_)|refine sB ?_|(first|apply pX|apply bX)<;>intro hc|refine⟨oD,?_⟩|exact oD|fail
 by_cases g5:n<100000
 ·obtain rfl:k=5:=by rw[←hk];exact Lib.nDigits_unique 4 n (by omega) (by omega)
  have hn:=iJ n (by omega) (by omega)
  rw[hk]at hn;have hf:=fun nm=>Sl 1009 nm n (by omega)
  have hd:=fL 5 n;refine eW Tryz.call291 Tryz.func291 ?_;repeat' first|simp only[go_sem,seval,←kG,kM,ey,u8,List.map_append,List.nil_append,List.cons_append]|refine cP hn ?_|(refine aP (hf _) (by simp[ai]) ?_)|refine sB ?_|(first|apply pX|apply bX)<;>intro hc|refine⟨oD,?_⟩|exact oD|fail
 by_cases g6:n<1000000
 ·obtain rfl:k=6:=by rw[←hk];exact Lib.nDigits_unique 5 n (by omega) (by omega)
  have hn:=iJ n (by omega) (by omega)
  rw[hk]at hn;have hf:=fun nm=>Sm 1009 nm n (by omega)
  have hd:=fL 6 n;refine eW Tryz.call291 Tryz.func291 ?_;repeat' first|simp only[go_sem,seval,←kG,kM,ey,u8,List.map_append,List.nil_append,List.cons_append]|refine cP hn ?_|(refine aP (hf _) (by simp[ai]) ?_)|refine sB ?_|(first|apply pX|apply bX)<;>intro hc|refine⟨oD,?_⟩|exact oD|fail
 by_cases g7:n<10000000
 ·obtain rfl:k=7:=by rw[←hk];exact Lib.nDigits_unique 6 n (by omega) (by omega)
  have hn:=iJ n (by omega) (by omega)
  rw[hk]at hn;have hf:=fun nm=>Sn 1009 nm n (by omega)
  have hd:=fL 7 n;refine eW Tryz.call291 Tryz.func291 ?_;repeat' first|simp only[go_sem,seval,←kG,kM,ey,u8,List.map_append,List.nil_append,List.cons_append]|refine cP hn ?_|(refine aP (hf _) (by simp[ai]) ?_)|refine sB ?_|(first|apply pX|apply bX)<;>intro hc|refine⟨oD,?_⟩|exact oD|fail
 by_cases g8:n<100000000
 ·obtain rfl:k=8:=by rw[←hk];exact Lib.nDigits_unique 7 n (by omega) (by omega)
  have hn:=iJ n (by omega) (by omega)
  rw[hk]at hn;have hf:=fun nm=>So 1009 nm n (by omega)
  have hd:=fL 8 n;refine eW Tryz.call291 Tryz.func291 ?_;repeat' first|simp only[go_sem,seval,←kG,kM,ey,u8,List.map_append,List.nil_append,List.cons_append]|refine cP hn ?_|(refine aP (hf _) (by simp[ai]) ?_)|refine sB ?_|(first|apply pX|apply bX)<;>intro hc|refine⟨oD,?_⟩|exact oD|fail
 by_cases g9:n<1000000000
 ·obtain rfl:k=9:=by rw[←hk];exact Lib.nDigits_unique 8 n (by omega) (by omega)
  have hn:=iJ n (by omega) (by omega)
  rw[hk]at hn;have hf:=fun nm=>Sp 1009 nm n (by omega)
  have hd:=fL 9 n;refine eW Tryz.call291 Tryz.func291 ?_;repeat' first|simp only[go_sem,seval,←kG,kM,ey,u8,List.map_append,List.nil_append,List.cons_append]|refine cP hn ?_|(refine aP (hf _) (by simp[ai]) ?_)|refine sB ?_|(first|apply pX|apply bX)<;>intro hc|refine⟨oD,?_⟩|exact oD|fail
 obtain rfl:k=10:=by rw[←hk];exact Lib.nDigits_unique 9 n (by omega) (by omega)
 have hn:=iJ n (by omega) (by omega)
 rw[hk]at hn;have hf:=fun nm=>QC 1009 nm n (by omega)
 have hd:=fL 10 n;refine eW Tryz.call291 Tryz.func291 ?_;repeat' first|simp only[go_sem,seval,←kG,kM,ey,u8,List.map_append,List.nil_append,List.cons_append]|refine cP hn ?_|(refine aP (hf _) (by simp[ai]) ?_)|refine sB ?_|(first|apply pX|apply bX)<;>intro hc|refine⟨oD,?_⟩|exact oD|fail
theorem Ic (n:Nat) (h:n<100):jo n=Lib.decDigits n:=by
 unfold jo
 by_cases g:n<10
 ·rw[if_pos g,Lib.decDigits_one g]
 ·rw[if_neg g,Lib.decDigits_two g h]
theorem zY (n:Nat) (h2:n<4294967296):aB Tryz.prog 121 [.i .i64 (n:Int)] (.s (Lib.decDigits n)):=by
 by_cases h:n<100
 ·rw[←Ic n h];exact tt n h
 have hF:=K1 n (by omega) h2
 have hI:aB Tryz.prog 205 [.i .i64 (n:Int)] (.s (Lib.decDigits n)):=by
  refine eW Tryz.call205 Tryz.func205 ?_;repeat' first|simp only[go_sem,seval]|refine cP hF ?_|refine sB ?_|(first|apply pX|apply bX)<;>intro hc|refine⟨oD,?_⟩|exact oD|fail
 refine eW Tryz.call121 Tryz.func121 ?_;repeat' first|simp only[go_sem,seval]|refine cP hI ?_|refine sB ?_|(first|apply pX|apply bX)<;>intro hc|refine⟨oD,?_⟩|exact oD|fail
end Go.Proofs.YtmobkhegihemeaaGreatDoor
namespace Go.Proofs.YtmobkhegihemeaaGreatDoor
open Go Go.Dom Go.RowKit Go.Shelf
set_option maxRecDepth 100000
set_option maxHeartbeats 16000000
theorem yZ: ∀(k u:Nat),u<10^(k+1)→Lib.nDigits u≤k+1:=by
 intro k
 induction k with
 |zero=>intro u h;rw[Lib.nDigits_small (by simpa using h)];exact Nat.le_refl _
 |succ k ih=>
  intro u h
  by_cases hu:u<10
  ·rw[Lib.nDigits_small hu];omega
  ·rw[Lib.nDigits_big hu];have:=ih (u/10) (by rw[Nat.pow_succ]at h;omega)
   omega
theorem tR {n:Nat} (h:n<4294967296):(Lib.decDigits n).length≤10:=by
 rw[Lib.decDigits_length];exact yZ 9 n (by omega)
def BI (at' a b:Nat):Bytes:=Lib.decDigits at'++[46]++Lib.decDigits a++[46]++Lib.decDigits b
def tD (sd:Bytes) (at' a b:Nat):Bytes:=Fo sd (BI at' a b)
def BH (sd:Bytes) (at' a:Nat) (b:Nat):Nat→List (List PV)
 |0=>[]
 |k+1=>[.s (tD sd at' a b)]::BH sd at' a (b+1) k
theorem BJ {vs:PV} {sd:Bytes} {at' a k:Nat} (hsd:sd.length<1000000) (hk:k<1000000) (ha:at'<4294967296) (ha2:a<4294967296):P5 Tryz.prog 313 [.pt (.agg [vs, .s sd, .i .i64 at']) 0, .pt (.agg [.i .i64 a]) 0] false (BH sd at' a 0 k):=by
 refine⟨Tryz.call313,?_⟩;intro w rd cvs l J Jx htr hcaps hrd hb hbx hY hfin h0;have hfin:=hfin rfl;obtain⟨p,us,rfl,hp,hcaps⟩:=hcaps.cU;obtain⟨q,us,rfl,hq,hnil⟩:=hcaps.cU;obtain rfl:=hnil.bM;obtain⟨bp,op,rfl,c1,c2⟩: ∃bp op,p= .pointer (some ⟨bp,op,none⟩)∧rd bp (op+1)=some (.string ⟨sd.toArray⟩)∧rd bp (op+2)=some (.int .i64 at'):=by
  cases hp with
  |pt x o vs' bk of h1 hl hr h=>
   have hv: ∀i,i<3→ ∃v,vs'[i]?=some v:=fun i hi=>⟨_,List.getElem?_eq_getElem (by have:vs'.length=3:=hl.symm;omega)⟩
   obtain⟨a1,b1⟩:=hv 1 (by decide)
   obtain⟨a2,b2⟩:=hv 2 (by decide)
   have q1:=h 1 _ _ rfl b1;have q2:=h 2 _ _ rfl b2
   cases q1;cases q2
   exact⟨bk,of,rfl,hr 1 _ b1,hr 2 _ b2⟩
 obtain⟨bq,oq,rfl,c3⟩: ∃bq oq,q= .pointer (some ⟨bq,oq,none⟩)∧rd bq oq=some (.int .i64 a):=by
  cases hq with
  |pt x o vs' bk of h1 hl hr h=>
   obtain⟨v,rfl⟩:=List.length_eq_one_iff.1 (show vs'.length=1 from hl.symm)
   have:=h 0 _ v rfl rfl;cases this;exact⟨bk,of,rfl,hr 0 _ rfl⟩
 refine callsIn_of_wp Tryz.func313 rfl trivial ?_;simp only[Tryz.ntmps313,List.size_toArray,List.length_cons,List.length_nil,Nat.reduceAdd,Nat.reduceSub,Array.replicate_succ,Array.replicate_zero,List.push_toArray,List.append_toArray,List.nil_append,List.cons_append]
 gi_wp2
 gi_loopw [4] (fun p wr=> ∃b:Nat,p= .int .i64 (b:Int)∧b≤k∧J (BH sd at' a b (k-b)) wr) (fun p wr=>match p with| .int _ n=>k-n.toNat| _=>0)
 case atStart=>
  exact⟨0,rfl,Nat.zero_le _,h0⟩
 case round=>
  obtain⟨b,rfl,hbk,hJ⟩:=hrel;have hlt:b<k:=by
   rcases Nat.lt_or_ge b k with h|h
   ·exact h
   ·have:k-b=0:=by omega
    rw[this]at hJ;exact(hfin trivial _ hJ).elim
  obtain⟨m,hm⟩: ∃m,k-b=m+1:=⟨k-b-1,by omega⟩
  rw[hm]at hJ;change J ([.s (Fo sd (BI at' a b))]::BH sd at' a (b+1) m) wr at hJ;have h1:=zY at' ha;have h2:=zY a ha2;have h3:=zY b (by omega)
  have l1:=tR ha;have l2:=tR ha2;have l3:=tR (n:=b) (by omega)
  have hlN:(BI at' a b).length<1000000:=by simp[BI];omega
  refine wpIn_seq (wpIn_block (wpIn_seq ?_));refine wpIn_mono (CN mixed (rd:=rd) (pvs:=[(1, .pt (.agg [vs, .s sd, .i .i64 at']) 0),(2, .pt (.agg [.i .i64 a]) 0),(4, .i .i64 b)]) (out:=[(5, .s (BI at' a b))]) (eT.1 26 _ _ (by cbv)) rfl htr (hrd _ _ hJ) ?hp (CW.start ?aw)) ?cont
  case hp=>
   intro p hm;simp only[List.mem_cons,List.not_mem_nil,or_false]at hm;rcases hm with rfl|rfl|rfl
   ·exact hp
   ·exact hq
   ·exact .i _ _
  case aw=>
   simp only[go_sem,seval];repeat' first|simp only[go_sem,seval,List.length_append]|refine cP h1 ?_|refine cP h2 ?_|refine cP h3 ?_|refine sB ?_|(first|apply pX|apply bX)<;>intro hc|refine⟨oD,?_⟩|exact oD|fail
   all_goals simp[BI]
  case cont=>
   rintro e ⟨t,df⟩ W2 ⟨rfl,⟨hdf,hsz,hbl,hout⟩,hkp⟩;have k0:=hkp.at 0 rfl;have k1:=hkp.at 1 rfl;have k2:=hkp.at 2 rfl;have k3:=hkp.at 3 rfl;have k4:=hkp.at 4 rfl;have k5:=hout _ (List.mem_singleton.2 rfl);have hl:=HC hsz;simp only[List.size_toArray,List.length_cons,List.length_nil,Nat.zero_add,Nat.reduceAdd]at hl;rw[show List.range 26=[0,1,2,3,4,5,6,7,8,9,10,11,12,13,14,15,16,17,18,19,20,21,22,23,24,25]from rfl]at hl
   simp only[List.map_cons,List.map_nil]at hl;change t.getD 0 undef=Value.func (Fn.yield l) #[] #[]at k0;change t.getD 1 undef=Value.pointer (some ⟨bp,op,none⟩)at k1;change t.getD 2 undef=Value.pointer (some ⟨bq,oq,none⟩)at k2;change t.getD 3 undef=undef at k3;change t.getD 4 undef=Value.int .i64 b at k4;change PR _ _ (t.getD 5 undef)at k5;rw[k0,k1,k2,k3,k4]at hl;generalize t.getD 5 undef=v5 at hl k5;cases k5;obtain rfl:df=[]:=hdf;rw[hl];clear hl k0 k1 k2 k3 k4 hsz hout hkp;simp only[Exit.then];have hJ2:=hb _ _ _ hJ hbl;have d4:=hrd _ _ hJ2 _ _ _ (c1)
   gi_wp2
   refine⟨trivial,rfl,(aB.calls (La hsd hlN) Tryz.call314 W2 rd [_,_] htr (hrd _ _ hJ2) ?_).mono ?_⟩
   ·exact .cons (.s _) (.cons (.s _) .nil)
   rintro x W3 ⟨v,rfl,hbl3,hpr⟩;cases hpr;have hJ3:=hb _ _ _ hJ2 hbl3;obtain⟨fn,tmps,assign,body,hy,hR⟩:=hY _ _ _ W3 hJ3 (.cons (.s _) .nil)
   gi_wp2
   refine⟨rfl,hR.mono ?_⟩;rintro x W4 (⟨rfl,hJ5⟩|⟨rfl,hJx⟩)
   ·have hw3:IntKind.i64.wrap ((b:Int)+1)=(b:Int)+1:=IntWalk.i64_in _ (by omega)
    gi_wp2
    refine⟨⟨b+1,by push_cast;rfl,by omega,by rw[show k-(b+1)=m from by omega];exact hJ5⟩,?_⟩
    ·show k-((b:Int)+1).toNat<k-(b:Int).toNat;omega
   ·gi_wp2
    refine bodyPost_ret (results_none rfl _ _ _) rfl ?_;exact⟨⟨_,rfl⟩, .inr hJx⟩
end Go.Proofs.YtmobkhegihemeaaGreatDoor
