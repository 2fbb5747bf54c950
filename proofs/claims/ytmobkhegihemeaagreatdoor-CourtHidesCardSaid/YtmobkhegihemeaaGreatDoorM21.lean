/-
  Part of the proof, part 21. Own work.
-/
import Derived.Test.YtmobkhegihemeaaGreatDoorM20
set_option linter.all false
namespace Go.Proofs.YtmobkhegihemeaaGreatDoor
open Go Go.Dom
set_option maxRecDepth 100000
set_option maxHeartbeats 4000000
theorem divided_s {a b:Bytes} (ha:validN a=true) (hb:validN b=true) (h0:0<num b) (h:a.length≤8∨num a<num b):EvP Tryz.prog 160 [.s a, .s b] (.tup [.s (bts (num a/num b)), .s (bts (num a%num b))]):=by
 have hc:=compare_ok (canon_of ha) (canon_of hb)
 by_cases hlt:num a<num b
 ·have e:cmpN (num a) (num b)= -1:=by simp[cmpN,hlt]
  rw[e]at hc;have e1:bts (num a/num b)=[]:=by rw[Nat.div_eq_of_lt hlt];rfl
  have e2:bts (num a%num b)=a:=by rw[Nat.mod_eq_of_lt hlt];exact bts_of ha
  refine eW Tryz.call160 Tryz.func160 ?_;repeat' first|simp only[go_sem,seval,e1,e2]|refine cP hc ?_|refine sB ?_|(first|apply pX|apply bX)<;>intro hc|refine⟨oD,?_⟩|exact oD|fail
 ·have la:a.length≤8:=h.resolve_right hlt;have lb:b.length≤8:=by
   rcases Nat.lt_or_ge a.length b.length with g|g
   ·have:=canon_len_lt (a:=a) (canon_of hb) g;omega
   ·omega
  have sa:=Small_ok a;have sb:=Small_ok b;rw[ha,Bool.true_and,decide_eq_true la]at sa;rw[hb,Bool.true_and,decide_eq_true lb]at sb;have na:=num8 la;have nb:=num8 lb;have hc':0≤cmpN (num a) (num b):=by unfold cmpN;split<;>(try split)<;>omega
  have hq:num a/num b<18446744073709551616:=Nat.lt_of_le_of_lt (Nat.div_le_self _ _) na;have hr:num a%num b<18446744073709551616:=Nat.lt_of_le_of_lt (Nat.mod_le _ _) na;refine eW Tryz.call160 Tryz.func160 ?_;repeat' first|simp only[go_sem,seval,if_true,uw,Nat.mod_eq_of_lt hq]|refine cP hc ?_|refine cP sa ?_|refine cP sb ?_|refine cP (Of_ok _ hq) ?_|refine cP (Of_ok _ hr) ?_|refine sB ?_|(first|apply pX|apply bX)<;>intro hc|refine⟨oD,?_⟩|exact oD|fail
def divB (a b:Bytes):Bytes×Bytes×Int:=if validN a&&validN b then(if b=[]then([],[],11)else(bts (num a/num b),bts (num a%num b),0))else([],[],3)
theorem num_pos {b:Bytes} (h:Canon b) (h0:b≠[]):0<num b:=Nat.lt_of_lt_of_le (Nat.pow_pos (by decide)) (canon_low h h0)
theorem DivMod_ok (a b:Bytes) (h:validN a=true→validN b=true→b≠[]→a.length≤8∨num a<num b):EvP Tryz.prog 107 [.s a, .s b] (.tup [.s (divB a b).1, .s (divB a b).2.1,E (divB a b).2.2]):=by
 by_cases hv:validN a=true∧validN b=true
 case neg=>
  refine eW Tryz.call107 Tryz.func107 ?_;repeat' first|simp only[go_sem,seval]|refine cP (natValid _) ?_|refine sB ?_|(first|apply pX|apply bX)<;>intro hc|refine⟨oD,?_⟩|exact oD|fail
  all_goals simp_all[divB]
 obtain⟨hva,hvb⟩:=hv
 by_cases hb:b=[]
 ·subst hb;refine eW Tryz.call107 Tryz.func107 ?_;repeat' first|simp only[go_sem,seval]|refine cP (natValid _) ?_|refine sB ?_|(first|apply pX|apply bX)<;>intro hc|refine⟨oD,?_⟩|exact oD|fail
  all_goals simp_all[divB]
 ·have hp:=num_pos (canon_of hvb) hb;refine eW Tryz.call107 Tryz.func107 ?_;repeat' first|simp only[go_sem,seval]|refine cP (natValid _) ?_|refine cP (divided_s hva hvb hp (h hva hvb hb)) ?_|refine sB ?_|(first|apply pX|apply bX)<;>intro hc|refine⟨oD,?_⟩|exact oD|fail
  all_goals simp_all[divB]
abbrev N (n:Nat):PV:= .s (bts n)
theorem vN {n:Nat} (h:n<18446744073709551616):validN (bts n)=true:=valid_bts (Nat.lt_trans h (by decide+kernel))
theorem lN {n:Nat} (h:n<18446744073709551616):(bts n).length≤8:=bts_len.2 h
theorem DivModN {a b:Nat} (ha:a<18446744073709551616) (hb:b<18446744073709551616) (h0:0<b):EvP Tryz.prog 107 [N a,N b] (.tup [N (a/b),N (a%b),E 0]):=by
 have:=DivMod_ok (bts a) (bts b) (fun _ _ _=> .inl (lN ha))
 have e:bts b≠[]:=fun h=>by rw[bts_nil]at h;omega
 simpa only[divB,vN ha,vN hb,Bool.and_self,if_true,e,if_false,num_bts]using this
theorem dividedN {a b:Nat} (ha:a<18446744073709551616) (hb:b<18446744073709551616) (h0:0<b):EvP Tryz.prog 160 [N a,N b] (.tup [N (a/b),N (a%b)]):=by
 have:=divided_s (vN ha) (vN hb) (by rw[num_bts];exact h0) (.inl (lN ha))
 simpa only[num_bts]using this
theorem nilT:(bts 0==([]:Bytes))=true:=rfl
theorem nilF {n:Nat} (h:n≠0):(bts n==([]:Bytes))=false:=by
 rw[beq_eq_false_iff_ne];intro e;exact h (bts_nil.1 e)
theorem btsEq (m n:Nat):(bts m==bts n)=decide (m=n):=by
 rw[Bool.eq_iff_iff];simp[bts_inj]
theorem GcdN {a b:Nat} (ha:a<18446744073709551616) (hb:b<18446744073709551616):EvP Tryz.prog 215 [N a,N b] (.tup [N (Nat.gcd a b),E 0]):=by
 have va:=natValid (bts a);have vb:=natValid (bts b);rw[vN ha]at va;rw[vN hb]at vb;refine eW Tryz.call215 Tryz.func215 ?_;repeat' first|simp only[go_sem,seval]|refine cP va ?_|refine cP vb ?_|refine sB ?_|(first|apply pX|apply bX)<;>intro hc|refine⟨oD,?_⟩|exact oD|fail
 refine loop_run (α:=Nat×Nat) (fun x=>x.2) (fun x=>⟨[(0, .v (N x.1)),(1, .v (N x.2))],[],_⟩) (fun x=>x.1<18446744073709551616∧x.2<18446744073709551616∧Nat.gcd x.1 x.2=Nat.gcd a b) (a,b) (fun _=>Nat.le_refl _) ⟨ha,hb,rfl⟩ ?_ ?_
 ·exact lE
 ·rintro⟨x,y⟩ ⟨hx,hy,hg⟩ R hR;simp only at hx hy hg
  by_cases h0:y=0
  ·subst h0;repeat' first|simp only[go_sem,seval,nilT]|refine sB ?_|(first|apply pX|apply bX)<;>intro hc|refine⟨oD,?_⟩|exact oD|fail
   rw[←hg,Nat.gcd_zero_right]
  ·have e:=nilF h0;have hd:=dividedN hx hy (by omega)
   repeat' first|simp only[go_sem,seval,e]|refine cP hd ?_|refine sB ?_|(first|apply pX|apply bX)<;>intro hc|refine⟨oD,?_⟩|exact oD|fail
   have hm:x%y<y:=Nat.mod_lt _ (by omega)
   refine hR (y,x%y) ⟨hy,by show x%y< _;omega,?_⟩ hm _ ?_
   ·show Nat.gcd y (x%y)= _;rw[←hg,Nat.gcd_comm x y,Nat.gcd_rec y x,Nat.gcd_comm]
   ·exact lE
theorem nn:(([]:Bytes)==[])=true:=rfl
theorem cn (c:UInt8) (r:Bytes):((c::r:Bytes)==[])=false:=rfl
def blen (n:Nat):Nat:=if n=0 then 0 else n.log2+1
theorem Bits_ok {a:Bytes} (h:validN a=true):EvP Tryz.prog 126 [.s a] (E (blen (num a))):=by
 have hv:=natValid a;rw[h]at hv
 cases a with
 |nil=>
  refine eW Tryz.call126 Tryz.func126 ?_;repeat' first|simp only[go_sem,seval,nn]|refine cP hv ?_|refine sB ?_|(first|apply pX|apply bX)<;>intro hc|refine⟨oD,?_⟩|exact oD|fail
  rfl
 |cons c r=>
  have hc:=canon_of h;have hl:=len_of h;have hp:=num_pos hc (by simp)
  have hn:num (c::r)=c.toNat*256^r.length+num r:=rfl;have hr:=num_lt r;have hc0:c≠0:=by rcases hc with e|e;cases e;exact e
  have hct:0<c.toNat:=by
   rcases Nat.eq_zero_or_pos c.toNat with e|e
   ·exact absurd (UInt8.toNat_inj.1 e:c=0) hc0
   ·exact e
  have hcl:=c.toNat_lt;have hb:=bitLen_bounds hct (by omega)
  have e256:256^r.length=2^(8*r.length):=by rw[show 256=2^8 from rfl,←Nat.pow_mul]
  have key:blen (num (c::r))=8*r.length+Lib.bitLen c.toNat:=by
   unfold blen;rw[if_neg (by omega)]
   have:(num (c::r)).log2=8*r.length+Lib.bitLen c.toNat-1:=by
    rw[Nat.log2_eq_iff (by omega)]
    have a1:2^(8*r.length+Lib.bitLen c.toNat-1)=2^(Lib.bitLen c.toNat-1)*256^r.length:=by rw[e256,←Nat.pow_add];congr 1;omega
    have a2:2^(8*r.length+Lib.bitLen c.toNat-1+1)=2^Lib.bitLen c.toNat*256^r.length:=by rw[e256,←Nat.pow_add];congr 1;omega
    rw[a1,a2,hn];have b1:=Nat.mul_le_mul_right (256^r.length) hb.2.1;have b2:=Nat.mul_le_mul_right (256^r.length) (show c.toNat+1≤2^Lib.bitLen c.toNat from hb.2.2)
    rw[Nat.add_mul]at b2;omega
   omega
  have hL:=Len8_ok c.toNat (by omega)
  have hbl:=bitLen_lt256 (x:=c.toNat) (by omega)
  have hl':r.length≤127:=by simpa using hl
  rw[key];clear hb e256 key hn hr hp hc;refine eW Tryz.call126 Tryz.func126 ?_;repeat' first|simp only[go_sem,seval,cn]|refine cP hv ?_|refine cP hL ?_|refine sB ?_|(first|apply pX|apply bX)<;>intro hc|refine⟨oD,?_⟩|exact oD|fail
  congr 1;omega
theorem iAndI {a b:Nat} (ha:a<9223372036854775808) (hb:b<9223372036854775808):iAnd .i64 (a:Int) (b:Int)=((a&&&b:Nat):Int):=by
 have h1:a&&&b<9223372036854775808:=Nat.lt_of_le_of_lt Nat.and_le_left ha;rw[iAnd,ofIntNat,ofIntNat,BitVec.toNat_and,BitVec.toNat_ofNat,BitVec.toNat_ofNat];show IntKind.i64.wrap ((a%2^64&&&b%2^64:Nat):Int)= _;rw[Nat.mod_eq_of_lt (by omega),Nat.mod_eq_of_lt (by omega),IntWalk.i64_in _ (by omega)]
theorem Bit_ok {a:Bytes} (h:validN a=true) (i:Nat) (hi:i<4611686018427387904):EvP Tryz.prog 129 [.s a,E i] (.b ((num a).testBit i)):=by
 have hv:=natValid a;rw[h]at hv;have hl:=len_of h;have e0:(i:Int).tdiv 8=((i/8:Nat):Int):=rfl;have e1:(i:Int).tmod 8=((i%8:Nat):Int):=rfl;have hd:=digit_ok a (i/8) (by omega)
 have key:(num a).testBit i=decide (num a/256^(i/8)%256/2^(i%8)%2=1):=by
  rw[Nat.testBit_eq_decide_div_mod_eq];congr 1;have e2:256^(i/8)=2^(8*(i/8)):=by rw[show 256=2^8 from rfl,←Nat.pow_mul]
  have e3:2^i=256^(i/8)*2^(i%8):=by rw[e2,←Nat.pow_add];congr 1;omega
  rw[e3,←Nat.div_div_eq_div_mul];generalize num a/256^(i/8)=z;have h8:i%8<8:=Nat.mod_lt _ (by decide)
  generalize i%8=j at h8;have:2^j*2^(8-j)=256:=by rw[←Nat.pow_add,show j+(8-j)=8 by omega]
  have e5:z%256/2^j=z/2^j%2^(8-j):=by rw[←this,Nat.mod_mul_right_div_self]
  rw[e5];have e6:2^(8-j)=2*2^(7-j):=by rw[←Nat.pow_succ'];congr 1;omega
  rw[e6,Nat.mod_mul_right_mod]
 obtain⟨d,hdd⟩: ∃d,d=num a/256^(i/8)%256:=⟨_,rfl⟩;rw[←hdd]at key hd;have hdl:d<256:=by rw[hdd];exact Nat.mod_lt _ (by decide)
 have hm: ∀ _:True,(if i%8≤64 then i%8 else 64)=i%8:=fun _=>by split<;>omega
 have ha: ∀ _:True,iAnd .i64 ((d/2^(i%8):Nat):Int) 1=((d/2^(i%8)%2:Nat):Int):=fun _=>by
  have hle:d/2^(i%8)≤d:=Nat.div_le_self _ _;have:=iAndI (a:=d/2^(i%8)) (b:=1) (by omega) (by decide)
  rw[Nat.and_one_is_mod]at this;exact this
 have hs:a.length≤i/8→d=0:=fun g=>by rw[hdd,num_digit0 a g]
 rw[key];clear key hdd;refine eW Tryz.call129 Tryz.func129 ?_;repeat' first|simp only[go_sem,seval,e0,e1,hm trivial,ha trivial]|refine cP hv ?_|refine cP hd ?_|refine sB ?_|(first|apply pX|apply bX)<;>intro hc|refine⟨oD,?_⟩|exact oD|fail
 ·congr 1;rw[Bool.eq_iff_iff];simp only[beq_iff_eq,decide_eq_true_eq];omega
 ·rw[hs (by omega)];simp
end Go.Proofs.YtmobkhegihemeaaGreatDoor
namespace Go.Dom
structure ExtE (a b r0 r1:Nat) (x0 x1 y0 y1:Int):Prop where
 e0:(a:Int)*x0+b*y0=r0
 e1:(a:Int)*x1+b*y1=r1
 g:Nat.gcd r0 r1=Nat.gcd a b
 hx:x1.natAbs*r0+x0.natAbs*r1≤b
 hy:y1.natAbs*r0+y0.natAbs*r1≤a
 bx0:x0.natAbs≤b
 bx1:x1.natAbs≤b
 by0:y0.natAbs≤a+1
 by1:y1.natAbs≤a+1
theorem ExtE.start {a b:Nat} (hb:0<b):ExtE a b a b 1 0 0 1:=
 ⟨by omega,by omega,rfl,by simp,by simp,by show 1≤b;omega,by simp,by simp,by simp⟩
theorem abs_step {x0 x1:Int} {q r0 r1 B:Nat} (hq:q=r0/r1) (h:x1.natAbs*r0+x0.natAbs*r1≤B):(x0-q*x1).natAbs*r1+x1.natAbs*(r0%r1)≤B:=by
 have h1:(x0-q*x1).natAbs≤x0.natAbs+q*x1.natAbs:=by
  have:=Int.natAbs_sub_le x0 (q*x1)
  rwa[Int.natAbs_mul,Int.natAbs_natCast]at this
 have h2:=Nat.mul_le_mul_right r1 h1;have h3:r1*q+r0%r1=r0:=by rw[hq];exact Nat.div_add_mod r0 r1
 have h4:x1.natAbs*r0=x1.natAbs*(r1*q)+x1.natAbs*(r0%r1):=by rw[←Nat.mul_add,h3]
 have h5:(x0.natAbs+q*x1.natAbs)*r1=x0.natAbs*r1+x1.natAbs*(r1*q):=by
  rw[Nat.add_mul,Nat.mul_comm q,Nat.mul_assoc,Nat.mul_comm q]
 omega
theorem ExtE.step {a b r0 r1:Nat} {x0 x1 y0 y1:Int} (h:ExtE a b r0 r1 x0 x1 y0 y1) (h1:0<r1):ExtE a b r1 (r0%r1) x1 (x0-(r0/r1:Nat)*x1) y1 (y0-(r0/r1:Nat)*y1):=by
 have hx:=abs_step (q:=r0/r1) rfl h.hx;have hy:=abs_step (q:=r0/r1) rfl h.hy;have le: ∀{n B:Nat} {m:Nat},n*r1+m≤B→n≤B:=fun{n B m} g=>by
  have:=Nat.le_mul_of_pos_right n h1;omega
 refine⟨h.e1,?_,?_,hx,hy,h.bx1,le hx,h.by1,?_⟩
 ·have e0:=h.e0;have e1:=h.e1;have hd:=Nat.div_add_mod r0 r1;generalize r0/r1=q at*;generalize r0%r1=t at*;have:(r0:Int)=r1*q+t:=by rw[←hd];simp
  rw[Int.mul_sub,Int.mul_sub];have e3:(a:Int)*(q*x1)=q*(a*x1):=by rw[←Int.mul_assoc,Int.mul_comm (a:Int),Int.mul_assoc]
  have e4:(b:Int)*(q*y1)=q*(b*y1):=by rw[←Int.mul_assoc,Int.mul_comm (b:Int),Int.mul_assoc]
  have e5:(q:Int)*(a*x1)+q*(b*y1)=r1*q:=by rw[←Int.mul_add,e1,Int.mul_comm]
  omega
 ·rw[←h.g,Nat.gcd_comm r0 r1,Nat.gcd_rec r1 r0,Nat.gcd_comm]
 ·have:=le hy;omega
theorem inv_of {a b:Nat} {X Y:Int} (h0:0≤X) (h:(a:Int)*X+b*Y=1):a*(X.natAbs%b)%b=1%b:=by
 obtain⟨n,rfl⟩:=Int.eq_ofNat_of_zero_le h0;rw[Int.natAbs_natCast,Nat.mul_mod_mod];have e:((a*n:Nat):Int)%b=(1:Int)%b:=by
  have:((a*n:Nat):Int)=1+b*(-Y):=by simp only[Int.natCast_mul,Int.mul_neg];omega
  rw[this,Int.add_mul_emod_self_left]
 exact_mod_cast e
theorem inv_uniq {a m i j:Nat} (hi:i<m) (hj:j<m) (h1:a*i%m=1%m) (h2:a*j%m=1%m):i=j:=by
 have e1:i*(a*j)%m=i%m:=by rw[←Nat.mul_mod_mod,h2,Nat.mul_mod_mod,Nat.mul_one]
 have e2:i*(a*j)%m=j%m:=by rw[←Nat.mul_assoc,Nat.mul_comm i a,←Nat.mod_mul_mod,h1,Nat.mod_mul_mod,Nat.one_mul]
 rw[Nat.mod_eq_of_lt hi]at e1;rw[Nat.mod_eq_of_lt hj]at e2;omega
noncomputable def invN (a m:Nat):Nat:= @dite _ (∃i,i<m∧a*i%m=1%m) (Classical.propDecidable _) (fun h=>Classical.choose h) (fun _=>0)
theorem invN_eq {a m i:Nat} (hi:i<m) (h:a*i%m=1%m):invN a m=i:=by
 have hx: ∃i,i<m∧a*i%m=1%m:=⟨i,hi,h⟩;unfold invN;rw[dif_pos hx];obtain⟨g1,g2⟩:=Classical.choose_spec hx;exact inv_uniq g1 hi g2 h
theorem ExtE.fin {a b g:Nat} {x0 x1 y0 y1:Int} (h:ExtE a b g 0 x0 x1 y0 y1):g=Nat.gcd a b:=by
 have:=h.g;rwa[Nat.gcd_zero_right]at this
theorem ExtE.inv {a b:Nat} {x0 x1 y0 y1:Int} (h:ExtE a b 1 0 x0 x1 y0 y1) (hb:0<b): ∀X:Int,X=(if x0<0 then x0+b else x0)→0≤X∧X≤b∧X.natAbs%b=invN a b:=by
 intro X hX;have b0:=h.bx0;have h0:0≤X:=by rw[hX];split<;>omega
 refine⟨h0,by rw[hX];split<;>omega,(invN_eq (Nat.mod_lt _ hb) ?_).symm⟩
 have e0:=h.e0
 by_cases hx:x0<0
 ·rw[if_pos hx]at hX;refine inv_of (Y:=y0-a) h0 ?_;rw[hX,Int.mul_add,Int.mul_sub,Int.mul_comm (b:Int) a];omega
 ·rw[if_neg hx]at hX;exact inv_of (Y:=y0) h0 (by rw[hX];omega)
def extF:Nat→Nat→Nat→Int→Int→Int→Int→Nat×Int×Int
 |0,r0,_,x0,_,y0,_=>(r0,x0,y0)
 |f+1,r0,r1,x0,x1,y0,y1=>if r1=0 then(r0,x0,y0)else extF f r1 (r0%r1) x1 (x0-(r0/r1:Nat)*x1) y1 (y0-(r0/r1:Nat)*y1)
theorem extF_end {a b:Nat}: ∀{f r0 r1:Nat} {x0 x1 y0 y1:Int},r1<f→ExtE a b r0 r1 x0 x1 y0 y1→ ∃x' y',ExtE a b (extF f r0 r1 x0 x1 y0 y1).1 0 (extF f r0 r1 x0 x1 y0 y1).2.1 x' (extF f r0 r1 x0 x1 y0 y1).2.2 y'
 |0,_,_,_,_,_,_,h,_=>absurd h (Nat.not_lt_zero _)
 |f+1,r0,r1,x0,x1,y0,y1,h,hE=>by
  unfold extF;split
  ·rename_i h0;subst h0;exact⟨x1,y1,hE⟩
  ·rename_i h0;exact extF_end (by have:=Nat.mod_lt r0 (show 0<r1 by omega);omega) (hE.step (by omega))
structure Bez (a b g:Nat) (x y:Int):Prop where
 z:b=0→x=1∧y=0
 bx:0<b→x.natAbs≤b
 by':0<b→y.natAbs≤max a 1
 e:(a:Int)*x+b*y=g
 g:g=Nat.gcd a b
theorem Bez.base (a:Nat):Bez a 0 a 1 0:=⟨fun _=>⟨rfl,rfl⟩,fun h=>by omega,fun h=>by omega,by simp,by simp⟩
theorem Bez.step {a b g:Nat} {x y:Int} (hb:0<b) (h:Bez b (a%b) g x y):Bez a b g y (x-(a/b:Nat)*y):=by
 have hd:=Nat.div_add_mod a b;have hg:g=Nat.gcd a b:=by rw[h.g,Nat.gcd_comm a b,Nat.gcd_rec b a,Nat.gcd_comm]
 have he:=h.e;have e1:(a:Int)=b*(a/b:Nat)+(a%b:Nat):=by
  have:((b*(a/b)+a%b:Nat):Int)=(a:Int):=by rw[hd]
  rw[←this];simp
 rcases Nat.eq_zero_or_pos (a%b)with h0|h0
 ·obtain⟨rfl,rfl⟩:=h.z h0;refine⟨by omega,by simp,fun _=>by simp;omega,?_,hg⟩
  simp only[Int.mul_zero,Int.sub_zero,Int.mul_one,Int.zero_add,Int.add_zero]at he⊢;exact he
 ·have bx:=h.bx h0;have by1:y.natAbs≤b:=by have:=h.by' h0;omega
  refine⟨by omega,fun _=>by1,fun _=> ?_,?_,hg⟩
  ·have h1:(x-(a/b:Nat)*y).natAbs≤x.natAbs+a/b*y.natAbs:=by
    have:=Int.natAbs_sub_le x ((a/b:Nat)*y)
    rwa[Int.natAbs_mul,Int.natAbs_natCast]at this
   have h2:=Nat.mul_le_mul_left (a/b) by1;have h3:a/b*b=b*(a/b):=Nat.mul_comm _ _;omega
  ·generalize a/b=q at*;generalize a%b=t at*;rw[Int.mul_sub,e1,Int.add_mul];have e3:(b:Int)*q*y=b*(q*y):=Int.mul_assoc ..;omega
end Go.Dom
namespace Go.Proofs.YtmobkhegihemeaaGreatDoor
open Go Go.Dom
set_option maxRecDepth 100000
def zs (x:Int):Bool:=decide (x<0)
def zb (x:Int):Bytes:=bts x.natAbs
abbrev Z (x:Int):PV:= .agg [.b (zs x), .s (zb x)]
def W128:Nat:=340282366920938463463374607431768211456
theorem w128:W128≤LIM:=by unfold LIM W128;decide+kernel
theorem w256:W128*W128≤LIM:=by unfold LIM W128;decide+kernel
theorem vB {n:Nat} (h:n<LIM):validN (bts n)=true:=valid_bts h
theorem zb_nat (n:Nat):zb (n:Int)=bts n:=rfl
theorem zs_nat (n:Nat):zs (n:Int)=false:=by simp[zs]
theorem num_zb (x:Int):num (zb x)=x.natAbs:=num_bts _
theorem zb_nil (x:Int):(zb x==([]:Bytes))=decide (x=0):=by
 unfold zb;rw[Bool.eq_iff_iff];simp[bts_nil]
theorem zval {x:Int} (h:x.natAbs<LIM):(validN (zb x)&& !(zs x&&zb x==[]))=true:=by
 rw[zb_nil,show validN (zb x)=true from vB h]
 simp[zs];omega
theorem zmk (b:Bool) (n:Nat):(.agg [.b (b&& !(bts n==[])),N n]:PV)=Z (if b then-(n:Int)else n):=by
 by_cases h:n=0
 ·subst h;cases b<;>rfl
 ·have e:(bts n==([]:Bytes))=false:=nilF h;cases b
  ·simp[Z,zs,zb]
  ·have:decide (-(n:Int)<0)=true:=decide_eq_true (by omega)
   simp[Z,zs,zb,e,h];omega
theorem zmul (x y:Int):(if(zs x !=zs y)then-((x.natAbs*y.natAbs:Nat):Int)else((x.natAbs*y.natAbs:Nat):Int))=x*y:=by
 rw[Int.natCast_mul];unfold zs
 by_cases h1:x<0<;>by_cases h2:y<0<;>simp only[h1,h2,decide_true,decide_false,bne_self_eq_false,Bool.false_eq_true,if_false]
 ·have e1:(x.natAbs:Int)= -x:=by omega
  have e2:(y.natAbs:Int)= -y:=by omega
  rw[e1,e2,Int.neg_mul_neg]
 ·have e1:(x.natAbs:Int)= -x:=by omega
  have e2:(y.natAbs:Int)=y:=by omega
  simp only[Bool.bne_false,if_true];rw[e1,e2,Int.neg_mul,Int.neg_neg]
 ·have e1:(x.natAbs:Int)=x:=by omega
  have e2:(y.natAbs:Int)= -y:=by omega
  simp only[Bool.false_bne,if_true];rw[e1,e2,Int.mul_neg,Int.neg_neg]
 ·have e1:(x.natAbs:Int)=x:=by omega
  have e2:(y.natAbs:Int)=y:=by omega
  rw[e1,e2]
theorem zadd1 {x y:Int} (h:zs x=zs y):(if zs x then-((x.natAbs+y.natAbs:Nat):Int)else((x.natAbs+y.natAbs:Nat):Int))=x+y:=by
 unfold zs at*
 by_cases h1:x<0<;>by_cases h2:y<0<;>simp[h1,h2]at h⊢ <;>omega
theorem zadd2 {x y:Int} (h:zs x≠zs y) (hl:y.natAbs≤x.natAbs):(if zs x then-((x.natAbs-y.natAbs:Nat):Int)else((x.natAbs-y.natAbs:Nat):Int))=x+y:=by
 unfold zs at*
 by_cases h1:x<0<;>by_cases h2:y<0<;>simp[h1,h2]at h⊢ <;>omega
theorem zadd3 {x y:Int} (h:zs x≠zs y) (hl:x.natAbs≤y.natAbs):(if zs y then-((y.natAbs-x.natAbs:Nat):Int)else((y.natAbs-x.natAbs:Nat):Int))=x+y:=by
 rw[Int.add_comm];exact zadd2 (Ne.symm h) hl
theorem zneg (y:Int):(if !zs y then-(y.natAbs:Int)else(y.natAbs:Int))= -y:=by
 unfold zs
 by_cases h:y<0<;>simp[h]<;>omega
theorem cmpN_ge {a b:Nat}:(0≤cmpN a b)↔b≤a:=by unfold cmpN;split<;>(try split)<;>omega
end Go.Proofs.YtmobkhegihemeaaGreatDoor
