/-
  Part of the proof, part Y25. Own work.
-/
import Derived.Test.YtmledjfbgjnknaaGreatDoorY24
import Derived.RangeFuncKeeps
import Derived.RangeFuncLeaves
import Derived.Shelf.Abstract
import Derived.WalkKit
import Derived.OwnWalkIn
import Derived.TacticsInMore
import Derived.LoopNIn
import Derived.LoopIn
set_option linter.all false
namespace Go.Proofs.YtmledjfbgjnknaaGreatDoor
open Go Go.Dom
set_option maxRecDepth 100000
set_option maxHeartbeats 4000000
theorem divided_s {a b:Bytes} (ha:validN a=true) (hb:validN b=true) (h0:0<num b) (h:a.length≤8∨num a<num b):EvP Tryz.prog 100 [.s a, .s b] (.tup [.s (bts (num a/num b)), .s (bts (num a%num b))]):=by
 have hc:=compare_ok (canon_of ha) (canon_of hb)
 by_cases hlt:num a<num b
 ·have e:cmpN (num a) (num b)= -1:=by simp[cmpN,hlt]
  rw[e]at hc;have e1:bts (num a/num b)=[]:=by rw[Nat.div_eq_of_lt hlt];rfl
  have e2:bts (num a%num b)=a:=by rw[Nat.mod_eq_of_lt hlt];exact bts_of ha
  refine eW Tryz.call100 Tryz.func100 ?_;repeat' first|simp only[go_sem,seval,e1,e2]|refine cP hc ?_|refine sB ?_|(first|apply pX|apply bX)<;>intro hc|refine⟨oD,?_⟩|exact oD|fail
 ·have la:a.length≤8:=h.resolve_right hlt;have lb:b.length≤8:=by
   rcases Nat.lt_or_ge a.length b.length with g|g
   ·have:=canon_len_lt (a:=a) (canon_of hb) g;omega
   ·omega
  have sa:=Small_ok a;have sb:=Small_ok b;rw[ha,Bool.true_and,decide_eq_true la]at sa;rw[hb,Bool.true_and,decide_eq_true lb]at sb;have na:=num8 la;have nb:=num8 lb;have hc':0≤cmpN (num a) (num b):=by unfold cmpN;split<;>(try split)<;>omega
  have hq:num a/num b<18446744073709551616:=Nat.lt_of_le_of_lt (Nat.div_le_self _ _) na;have hr:num a%num b<18446744073709551616:=Nat.lt_of_le_of_lt (Nat.mod_le _ _) na;refine eW Tryz.call100 Tryz.func100 ?_;repeat' first|simp only[go_sem,seval,if_true,uw,Nat.mod_eq_of_lt hq]|refine cP hc ?_|refine cP sa ?_|refine cP sb ?_|refine cP (Of_ok _ hq) ?_|refine cP (Of_ok _ hr) ?_|refine sB ?_|(first|apply pX|apply bX)<;>intro hc|refine⟨oD,?_⟩|exact oD|fail
def divB (a b:Bytes):Bytes×Bytes×Int:=if validN a&&validN b then(if b=[]then([],[],11)else(bts (num a/num b),bts (num a%num b),0))else([],[],3)
theorem num_pos {b:Bytes} (h:Canon b) (h0:b≠[]):0<num b:=Nat.lt_of_lt_of_le (Nat.pow_pos (by decide)) (canon_low h h0)
theorem DivMod_ok (a b:Bytes) (h:validN a=true→validN b=true→b≠[]→a.length≤8∨num a<num b):EvP Tryz.prog 94 [.s a, .s b] (.tup [.s (divB a b).1, .s (divB a b).2.1,E (divB a b).2.2]):=by
 by_cases hv:validN a=true∧validN b=true
 case neg=>
  refine eW Tryz.call94 Tryz.func94 ?_;repeat' first|simp only[go_sem,seval]|refine cP (natValid _) ?_|refine sB ?_|(first|apply pX|apply bX)<;>intro hc|refine⟨oD,?_⟩|exact oD|fail
  all_goals simp_all[divB]
 obtain⟨hva,hvb⟩:=hv
 by_cases hb:b=[]
 ·subst hb;refine eW Tryz.call94 Tryz.func94 ?_;repeat' first|simp only[go_sem,seval]|refine cP (natValid _) ?_|refine sB ?_|(first|apply pX|apply bX)<;>intro hc|refine⟨oD,?_⟩|exact oD|fail
  all_goals simp_all[divB]
 ·have hp:=num_pos (canon_of hvb) hb;refine eW Tryz.call94 Tryz.func94 ?_;repeat' first|simp only[go_sem,seval]|refine cP (natValid _) ?_|refine cP (divided_s hva hvb hp (h hva hvb hb)) ?_|refine sB ?_|(first|apply pX|apply bX)<;>intro hc|refine⟨oD,?_⟩|exact oD|fail
  all_goals simp_all[divB]
abbrev N (n:Nat):PV:= .s (bts n)
theorem vN {n:Nat} (h:n<18446744073709551616):validN (bts n)=true:=valid_bts (Nat.lt_trans h (by decide+kernel))
theorem lN {n:Nat} (h:n<18446744073709551616):(bts n).length≤8:=bts_len.2 h
theorem DivModN {a b:Nat} (ha:a<18446744073709551616) (hb:b<18446744073709551616) (h0:0<b):EvP Tryz.prog 94 [N a,N b] (.tup [N (a/b),N (a%b),E 0]):=by
 have:=DivMod_ok (bts a) (bts b) (fun _ _ _=> .inl (lN ha))
 have e:bts b≠[]:=fun h=>by rw[bts_nil]at h;omega
 simpa only[divB,vN ha,vN hb,Bool.and_self,if_true,e,if_false,num_bts]using this
theorem dividedN {a b:Nat} (ha:a<18446744073709551616) (hb:b<18446744073709551616) (h0:0<b):EvP Tryz.prog 100 [N a,N b] (.tup [N (a/b),N (a%b)]):=by
 have:=divided_s (vN ha) (vN hb) (by rw[num_bts];exact h0) (.inl (lN ha))
 simpa only[num_bts]using this
theorem nilT:(bts 0==([]:Bytes))=true:=rfl
theorem nilF {n:Nat} (h:n≠0):(bts n==([]:Bytes))=false:=by
 rw[beq_eq_false_iff_ne];intro e;exact h (bts_nil.1 e)
theorem btsEq (m n:Nat):(bts m==bts n)=decide (m=n):=by
 rw[Bool.eq_iff_iff];simp[bts_inj]
theorem GcdN {a b:Nat} (ha:a<18446744073709551616) (hb:b<18446744073709551616):EvP Tryz.prog 45 [N a,N b] (.tup [N (Nat.gcd a b),E 0]):=by
 have va:=natValid (bts a);have vb:=natValid (bts b);rw[vN ha]at va;rw[vN hb]at vb;refine eW Tryz.call45 Tryz.func45 ?_;repeat' first|simp only[go_sem,seval]|refine cP va ?_|refine cP vb ?_|refine sB ?_|(first|apply pX|apply bX)<;>intro hc|refine⟨oD,?_⟩|exact oD|fail
 refine loop_run (α:=Nat×Nat) (fun x=>x.2) (fun x=>⟨[(0, .v (N x.1)),(1, .v (N x.2))],[],_⟩) (fun x=>x.1<18446744073709551616∧x.2<18446744073709551616∧Nat.gcd x.1 x.2=Nat.gcd a b) (a,b) (fun _=>Nat.le_refl _) ⟨ha,hb,rfl⟩ ?_ ?_
 ·exact lE
 ·rintro⟨x,y⟩ ⟨hx,hy,hg⟩ R hR;simp only at hx hy hg
  by_cases h0:y=0
  ·subst h0;repeat' first|simp only[go_sem,seval,nilT]|refine sB ?_|(first|apply pX|apply bX)<;>intro hc|refine⟨oD,?_⟩|exact oD|fail
   rw[←hg,Nat.gcd_zero_right]
  ·have e:=nilF h0;have hd:=dividedN hx hy (by omega)
   repeat' first|simp only[go_sem,seval,e]|refine cP hd ?_|refine sB ?_|(first|apply pX|apply bX)<;>intro hc|refine⟨oD,?_⟩|exact oD|fail
   have hm:x%y<y:=Nat.mod_lt _ (by omega)
   refine hR (y,x%y) ⟨hy,by show x%y< _;omega,?_⟩ hm _ ?_
   ·show Nat.gcd y (x%y)= _;rw[←hg,Nat.gcd_comm x y,Nat.gcd_rec y x,Nat.gcd_comm]
   ·exact lE
theorem nn:(([]:Bytes)==[])=true:=rfl
theorem cn (c:UInt8) (r:Bytes):((c::r:Bytes)==[])=false:=rfl
def blen (n:Nat):Nat:=if n=0 then 0 else n.log2+1
theorem Bits_ok {a:Bytes} (h:validN a=true):EvP Tryz.prog 211 [.s a] (E (blen (num a))):=by
 have hv:=natValid a;rw[h]at hv
 cases a with
 |nil=>
  refine eW Tryz.call211 Tryz.func211 ?_;repeat' first|simp only[go_sem,seval,nn]|refine cP hv ?_|refine sB ?_|(first|apply pX|apply bX)<;>intro hc|refine⟨oD,?_⟩|exact oD|fail
  rfl
 |cons c r=>
  have hc:=canon_of h;have hl:=len_of h;have hp:=num_pos hc (by simp)
  have hn:num (c::r)=c.toNat*256^r.length+num r:=rfl;have hr:=num_lt r;have hc0:c≠0:=by rcases hc with e|e;cases e;exact e
  have hct:0<c.toNat:=by
   rcases Nat.eq_zero_or_pos c.toNat with e|e
   ·exact absurd (UInt8.toNat_inj.1 e:c=0) hc0
   ·exact e
  have hcl:=c.toNat_lt;have hb:=bitLen_bounds hct (by omega)
  have e256:256^r.length=2^(8*r.length):=by rw[show 256=2^8 from rfl,←Nat.pow_mul]
  have key:blen (num (c::r))=8*r.length+Lib.bitLen c.toNat:=by
   unfold blen;rw[if_neg (by omega)]
   have:(num (c::r)).log2=8*r.length+Lib.bitLen c.toNat-1:=by
    rw[Nat.log2_eq_iff (by omega)]
    have a1:2^(8*r.length+Lib.bitLen c.toNat-1)=2^(Lib.bitLen c.toNat-1)*256^r.length:=by rw[e256,←Nat.pow_add];congr 1;omega
    have a2:2^(8*r.length+Lib.bitLen c.toNat-1+1)=2^Lib.bitLen c.toNat*256^r.length:=by rw[e256,←Nat.pow_add];congr 1;omega
    rw[a1,a2,hn];have b1:=Nat.mul_le_mul_right (256^r.length) hb.2.1;have b2:=Nat.mul_le_mul_right (256^r.length) (show c.toNat+1≤2^Lib.bitLen c.toNat from hb.2.2)
    rw[Nat.add_mul]at b2;omega
   omega
  have hL:=Len8_ok c.toNat (by omega)
  have hbl:=bitLen_lt256 (x:=c.toNat) (by omega)
  have hl':r.length≤127:=by simpa using hl
  rw[key];clear hb e256 key hn hr hp hc;refine eW Tryz.call211 Tryz.func211 ?_;repeat' first|simp only[go_sem,seval,cn]|refine cP hv ?_|refine cP hL ?_|refine sB ?_|(first|apply pX|apply bX)<;>intro hc|refine⟨oD,?_⟩|exact oD|fail
  congr 1;omega
theorem iAndI {a b:Nat} (ha:a<9223372036854775808) (hb:b<9223372036854775808):iAnd .i64 (a:Int) (b:Int)=((a&&&b:Nat):Int):=by
 have h1:a&&&b<9223372036854775808:=Nat.lt_of_le_of_lt Nat.and_le_left ha;rw[iAnd,ofIntNat,ofIntNat,BitVec.toNat_and,BitVec.toNat_ofNat,BitVec.toNat_ofNat];show IntKind.i64.wrap ((a%2^64&&&b%2^64:Nat):Int)= _;rw[Nat.mod_eq_of_lt (by omega),Nat.mod_eq_of_lt (by omega),IntWalk.i64_in _ (by omega)]
theorem Bit_ok {a:Bytes} (h:validN a=true) (i:Nat) (hi:i<4611686018427387904):EvP Tryz.prog 103 [.s a,E i] (.b ((num a).testBit i)):=by
 have hv:=natValid a;rw[h]at hv;have hl:=len_of h;have e0:(i:Int).tdiv 8=((i/8:Nat):Int):=rfl;have e1:(i:Int).tmod 8=((i%8:Nat):Int):=rfl;have hd:=digit_ok a (i/8) (by omega)
 have key:(num a).testBit i=decide (num a/256^(i/8)%256/2^(i%8)%2=1):=by
  rw[Nat.testBit_eq_decide_div_mod_eq];congr 1;have e2:256^(i/8)=2^(8*(i/8)):=by rw[show 256=2^8 from rfl,←Nat.pow_mul]
  have e3:2^i=256^(i/8)*2^(i%8):=by rw[e2,←Nat.pow_add];congr 1;omega
  rw[e3,←Nat.div_div_eq_div_mul];generalize num a/256^(i/8)=z;have h8:i%8<8:=Nat.mod_lt _ (by decide)
  generalize i%8=j at h8;have:2^j*2^(8-j)=256:=by rw[←Nat.pow_add,show j+(8-j)=8 by omega]
  have e5:z%256/2^j=z/2^j%2^(8-j):=by rw[←this,Nat.mod_mul_right_div_self]
  rw[e5];have e6:2^(8-j)=2*2^(7-j):=by rw[←Nat.pow_succ'];congr 1;omega
  rw[e6,Nat.mod_mul_right_mod]
 obtain⟨d,hdd⟩: ∃d,d=num a/256^(i/8)%256:=⟨_,rfl⟩;rw[←hdd]at key hd;have hdl:d<256:=by rw[hdd];exact Nat.mod_lt _ (by decide)
 have hm: ∀ _:True,(if i%8≤64 then i%8 else 64)=i%8:=fun _=>by split<;>omega
 have ha: ∀ _:True,iAnd .i64 ((d/2^(i%8):Nat):Int) 1=((d/2^(i%8)%2:Nat):Int):=fun _=>by
  have hle:d/2^(i%8)≤d:=Nat.div_le_self _ _;have:=iAndI (a:=d/2^(i%8)) (b:=1) (by omega) (by decide)
  rw[Nat.and_one_is_mod]at this;exact this
 have hs:a.length≤i/8→d=0:=fun g=>by rw[hdd,num_digit0 a g]
 rw[key];clear key hdd;refine eW Tryz.call103 Tryz.func103 ?_;repeat' first|simp only[go_sem,seval,e0,e1,hm trivial,ha trivial]|refine cP hv ?_|refine cP hd ?_|refine sB ?_|(first|apply pX|apply bX)<;>intro hc|refine⟨oD,?_⟩|exact oD|fail
 ·congr 1;rw[Bool.eq_iff_iff];simp only[beq_iff_eq,decide_eq_true_eq];omega
 ·rw[hs (by omega)];simp
end Go.Proofs.YtmledjfbgjnknaaGreatDoor
namespace Go.Proofs.YtmledjfbgjnknaaGreatDoor
open Go Go.Dom Go.RowKit Go.Shelf
set_option maxRecDepth 100000
set_option maxHeartbeats 4000000
theorem EvP.calls {P:Program} [Tabs P] {f:FuncId} {args:List PV} {r:PV} (h:EvP P f args r) (he:Go.Dom.Enters P f f) (w:World) (rd:Rd) (vs:List Value) (h1: ∀b o v,TR P b o=some v→rd b o=some v) (h2: ∀b o v,rd b o=some v→w.cell? ⟨b,o,none⟩=some v) (h3:RelL (PR rd) args vs):
  CallsIn Fence.wide 0 P f vs.toArray w fun e w'=> ∃v,e= .returned v∧Below w.heap.size w w'∧PR (extRd rd w w') r v:=by
 obtain⟨g,hg,hc⟩:=h;have:g=f:=by
  have a:=hg #[] w;rw[he #[] w]at a
  cases a;rfl
 subst this;exact callsIn_wide.2 (hc w rd vs h1 h2 h3)
def digs (n:Nat):Nat→List (List PV)
 |0=>[]
 |k+1=>[.b (n.testBit k)]::digs n k
theorem digits_it (e:Bytes) (he:validN e=true):ItP Tryz.prog 441 [.pt (.agg [.s e]) 0] true (digs (num e) (blen (num e))):=by
 refine⟨Tryz.call441,?_⟩;intro w rd cvs l J Jx htr hcaps hrd hb hbx hY _ h0;obtain⟨p,us,rfl,hp,hnil⟩:=hcaps.uncons;obtain rfl:=hnil.nil_inv;obtain⟨bk,of,rfl,hcell⟩: ∃bk of,p= .pointer (some ⟨bk,of,none⟩)∧rd bk of=some (.string ⟨e.toArray⟩):=by
  cases hp with
  |pt x o vs bk of h1 hl hr h=>
   obtain⟨v,rfl⟩:=List.length_eq_one_iff.1 (show vs.length=1 from hl.symm)
   have:=h 0 (.s e) v rfl rfl;cases this;exact⟨bk,of,rfl,hr 0 _ rfl⟩
 refine callsIn_of_wp Tryz.func441 rfl trivial ?_;simp only[Tryz.ntmps441,List.size_toArray,List.length_cons,List.length_nil,Nat.reduceAdd,Nat.reduceSub,Array.replicate_succ,Array.replicate_zero,List.push_toArray,List.append_toArray,List.nil_append,List.cons_append];have hc0:=hrd _ _ h0 _ _ _ hcell
 gi_wp2
 refine⟨trivial,rfl,(EvP.calls (Bits_ok he) Tryz.call211 w rd [_] htr (hrd _ _ h0) ?_).mono ?_⟩
 ·exact .cons (.s e) .nil
 rintro x w1 ⟨v,rfl,hbl,hpr⟩;cases hpr;have h1:=hb _ _ _ h0 hbl;clear hbl h0 hc0;have hbd:blen (num e)<2^60:=by
  have hl:=len_of he;have:=num_lt e;unfold blen;split
  ·decide
  ·rename_i h0;have h1:num e<2^(8*e.length):=by rw[Nat.pow_mul];exact this
   have h2:=(Nat.log2_lt h0).2 h1;omega
 have hw:IntKind.i64.wrap ((blen (num e):Int)-1)=(blen (num e):Int)-1:=IntWalk.i64_in _ (by omega)
 gi_wp2
 gi_loopw [3] (fun p wr=> ∃k:Nat,p= .int .i64 ((k:Int)-1)∧k≤blen (num e)∧J (digs (num e) k) wr) (fun p wr=>match p with| .int _ n=>(n+1).toNat| _=>0)
 case atStart=>
  exact⟨_,rfl,Nat.le_refl _,h1⟩
 case round=>
  obtain⟨k,rfl,hk,hJ⟩:=hrel;have hcr:=hrd _ _ hJ _ _ _ hcell
  cases k with
  |zero=>
   gi_wp2
   go_end0
   exact⟨⟨_,rfl⟩, .inl hJ⟩
  |succ k=>
   have hw2:((k+1:Nat):Int)-1=(k:Int):=by omega
   rw[hw2]
   gi_wp2
   refine⟨trivial,rfl,(EvP.calls (Bit_ok he k (by omega)) Tryz.call103 wr rd [_,_] htr (hrd _ _ hJ) ?_).mono ?_⟩
   ·exact .cons (.s e) (.cons (.i _ _) .nil)
   rintro x w2 ⟨v,rfl,hbl,hpr⟩;cases hpr;have hJ2:=hb _ _ _ hJ hbl;obtain⟨fn,tmps,assign,body,hy,hR⟩:=hY [.b ((num e).testBit k)] (digs (num e) k) [.bool ((num e).testBit k)] w2 hJ2 (.cons (.b _) .nil)
   gi_wp2
   refine⟨rfl,hR.mono ?_⟩;rintro x W3 (⟨rfl,hJ3⟩|⟨rfl,hJx⟩)
   ·have hw3:IntKind.i64.wrap ((k:Int)-1)=(k:Int)-1:=IntWalk.i64_in _ (by omega)
    gi_wp2
    go_roundw
    case rel=>exact⟨k,rfl,by omega,hJ3⟩
    case measure=>simp
   ·gi_wp2
    refine bodyPost_ret (results_none rfl _ _ _) rfl ?_;exact⟨⟨_,rfl⟩, .inr hJx⟩
structure Key where
 (name m o z s:Bytes)
 r:List Bytes
 (u h:Bytes)
def Key.pv (k:Key):PV:= .agg [.s k.name, .s k.m, .s k.o, .s k.z, .s k.s, .sl (k.r.map .s), .s k.u, .s k.h]
def bas (n:Int) (b:Bytes):List PV:=[.i .i64 n, .s b]
def Key.bases (k:Key):List (List PV):=bas 2 k.s::bas 0 k.z::bas 1 k.u::bas 1 k.h::k.r.map (bas 0)
theorem rel2 {rd:Rd} (n:Int) (b:Bytes):RelL (PR rd) (bas n b) [.int .i64 n, .string ⟨b.toArray⟩]:= .cons (.i _ _) (.cons (.s _) .nil)
theorem bases_it (k:Key) (hk:k.r.length<1000000):ItP Tryz.prog 99 [.pt k.pv 0] true k.bases:=by
 refine⟨Tryz.call99,?_⟩;intro w rd cvs l J Jx htr hcaps hrd hb hbx hY _ h0;obtain⟨p,us,rfl,hp,hnil⟩:=hcaps.uncons;obtain rfl:=hnil.nil_inv;obtain⟨bk,of,v5,rfl,c3,c4,c5,c6,c7,p5⟩: ∃bk of v5,p= .pointer (some ⟨bk,of,none⟩)∧rd bk (of+3)=some (.string ⟨k.z.toArray⟩)∧rd bk (of+4)=some (.string ⟨k.s.toArray⟩)∧rd bk (of+5)=some v5∧rd bk (of+6)=some (.string ⟨k.u.toArray⟩)∧rd bk (of+7)=some (.string ⟨k.h.toArray⟩)∧PR rd (.sl (k.r.map .s)) v5:=by
  cases hp with
  |pt x o vs bk of h1 hl hr h=>
   have hv: ∀i,i<8→ ∃v,vs[i]?=some v:=fun i hi=>⟨_,List.getElem?_eq_getElem (by have:vs.length=8:=hl.symm;omega)⟩
   obtain⟨a3,b3⟩:=hv 3 (by decide)
   obtain⟨a4,b4⟩:=hv 4 (by decide)
   obtain⟨a5,b5⟩:=hv 5 (by decide)
   obtain⟨a6,b6⟩:=hv 6 (by decide)
   obtain⟨a7,b7⟩:=hv 7 (by decide)
   have q3:=h 3 _ _ rfl b3;have q4:=h 4 _ _ rfl b4;have q5:=h 5 _ _ rfl b5;have q6:=h 6 _ _ rfl b6;have q7:=h 7 _ _ rfl b7
   cases q3;cases q4;cases q6;cases q7
   exact⟨bk,of,a5,rfl,hr 3 _ b3,hr 4 _ b4,hr 5 _ b5,hr 6 _ b6,hr 7 _ b7,q5⟩
 refine callsIn_of_wp Tryz.func99 rfl trivial ?_;simp only[Tryz.ntmps99,List.size_toArray,List.length_cons,List.length_nil,Nat.reduceAdd,Nat.reduceSub,Array.replicate_succ,Array.replicate_zero,List.push_toArray,List.append_toArray,List.nil_append,List.cons_append];have d4:=hrd _ _ h0 _ _ _ c4;obtain⟨fn,tmps,assign,body,hy,hR⟩:=hY (bas 2 k.s) _ _ w h0 (rel2 _ _)
 gi_wp2
 refine⟨rfl,hR.mono ?_⟩;rintro x W1 (⟨rfl,hJ1⟩|⟨rfl,hJx⟩)
 case inr=>(gi_wp2;repeat (refine⟨fun _ h=>(by cases h),?_⟩;gi_wp2));refine bodyPost_ret (results_none rfl _ _ _) rfl ?_;exact⟨⟨_,rfl⟩, .inr hJx⟩
 have d3:=hrd _ _ hJ1 _ _ _ c3;obtain⟨fn,tmps,assign,body,hy,hR⟩:=hY (bas 0 k.z) _ _ W1 hJ1 (rel2 _ _)
 gi_wp2
 refine⟨rfl,hR.mono ?_⟩;rintro x W2 (⟨rfl,hJ2⟩|⟨rfl,hJx⟩)
 case inr=>(gi_wp2;repeat (refine⟨fun _ h=>(by cases h),?_⟩;gi_wp2));refine bodyPost_ret (results_none rfl _ _ _) rfl ?_;exact⟨⟨_,rfl⟩, .inr hJx⟩
 have d6:=hrd _ _ hJ2 _ _ _ c6;obtain⟨fn,tmps,assign,body,hy,hR⟩:=hY (bas 1 k.u) _ _ W2 hJ2 (rel2 _ _)
 gi_wp2
 refine⟨rfl,hR.mono ?_⟩;rintro x W3 (⟨rfl,hJ3⟩|⟨rfl,hJx⟩)
 case inr=>(gi_wp2;repeat (refine⟨fun _ h=>(by cases h),?_⟩;gi_wp2));refine bodyPost_ret (results_none rfl _ _ _) rfl ?_;exact⟨⟨_,rfl⟩, .inr hJx⟩
 have d7:=hrd _ _ hJ3 _ _ _ c7;obtain⟨fn,tmps,assign,body,hy,hR⟩:=hY (bas 1 k.h) _ _ W3 hJ3 (rel2 _ _)
 gi_wp2
 refine⟨rfl,hR.mono ?_⟩;rintro x W4 (⟨rfl,hJ4⟩|⟨rfl,hJx⟩)
 case inr=>(gi_wp2;repeat (refine⟨fun _ h=>(by cases h),?_⟩;gi_wp2));refine bodyPost_ret (results_none rfl _ _ _) rfl ?_;exact⟨⟨_,rfl⟩, .inr hJx⟩
 have d5:=hrd _ _ hJ4 _ _ _ c5;clear d3 d4 d6 d7 hJ1 hJ2 hJ3 h0;obtain⟨ad,cap,rfl,hel⟩: ∃ad cap,v5= .slice ad k.r.length cap∧ ∀i (hi:i<k.r.length),∃b2 o2,ad=some ⟨b2,o2,none⟩∧rd b2 (o2+i)=some (.string ⟨(k.r[i]).toArray⟩):=by
  have hfm:(k.r.map PV.s).flatMap PV.cells=k.r.map PV.s:=by
   generalize k.r=r
   induction r with
   |nil=>rfl
   |cons x r ih=>simp_all[PV.cells]
  generalize hL:k.r.map PV.s=L at p5 hfm
  cases p5 with
  |sl0=>
   have:k.r=[]:=by simpa using hL
   exact⟨none,0,by rw[this];rfl,fun i hi=>by rw[this]at hi;cases hi⟩
  |sle a cap=>
   have:k.r=[]:=by simpa using hL
   exact⟨some a,cap,by rw[this];rfl,fun i hi=>by rw[this]at hi;cases hi⟩
  |sl _ z vs b2 o2 cap hc hz h1 hl hr h=>
   refine⟨some ⟨b2,o2,none⟩,cap,by rw[←hL];simp,fun i hi=>⟨b2,o2,rfl,?_⟩⟩
   rw[hfm]at hl h;have hiv:i<vs.length:=by rw[←hl,←hL];simpa using hi
   have e1:vs[i]?=some vs[i]:=List.getElem?_eq_getElem hiv;have:=h i (.s k.r[i]) vs[i] (by rw[←hL];simp[hi]) e1
   rw[hr i _ e1];generalize vs[i]=q at this
   cases this;rfl
 gi_wp2
 gi_loopw [4,34] (fun q p wr=> ∃i:Nat,p= .int .i64 (i:Int)∧i≤k.r.length∧J ((k.r.drop i).map (bas 0)) wr) (fun q p wr=>match p with| .int _ n=>k.r.length-n.toNat| _=>0)
 case atStart=>
  exact⟨0,rfl,Nat.zero_le _,hJ4⟩
 case round=>
  obtain⟨i,rfl,hi,hJ⟩:=hrel
  by_cases hlt:i<k.r.length
  ·obtain⟨b2,o2,rfl,hc⟩:=hel i hlt;have hcell:=hrd _ _ hJ _ _ _ hc;rw[List.drop_eq_getElem_cons hlt,List.map_cons]at hJ;obtain⟨fn,tmps,assign,body,hy,hR⟩:=hY (bas 0 k.r[i]) _ _ wr hJ (rel2 _ _);have h1:decide ((i:Int)<(k.r.length:Int))=true:=by simp;omega
   gi_wp2
   refine⟨rfl,hR.mono ?_⟩;rintro x W5 (⟨rfl,hJ5⟩|⟨rfl,hJx⟩)
   ·have hw3:IntKind.i64.wrap ((i:Int)+1)=(i:Int)+1:=IntWalk.i64_in _ (by omega)
    gi_wp2
    go_roundw
    case rel=>exact⟨i+1,rfl,by omega,hJ5⟩
    case measure=>simp;omega
   ·gi_wp2
    refine bodyPost_ret (results_none rfl _ _ _) rfl ?_;exact⟨⟨_,rfl⟩, .inr hJx⟩
  ·obtain rfl:i=k.r.length:=by omega
   rw[List.drop_length]at hJ;have h1:decide ((k.r.length:Int)<(k.r.length:Int))=false:=by simp
   gi_wp2
   go_end0
   exact⟨⟨_,rfl⟩, .inl hJ⟩
end Go.Proofs.YtmledjfbgjnknaaGreatDoor
