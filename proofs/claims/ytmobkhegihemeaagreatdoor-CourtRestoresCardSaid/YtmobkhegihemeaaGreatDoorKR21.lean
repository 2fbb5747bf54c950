/-
  Part of the proof, part KR21. Own work.
-/
import Derived.Test.YtmobkhegihemeaaGreatDoorKR20
set_option linter.all false
namespace Go.Proofs.YtmobkhegihemeaaGreatDoor
open Go Go.Dom
set_option maxRecDepth 100000
set_option maxHeartbeats 4000000
theorem nj {a b:Bytes} (ha:aa a=true) (hb:aa b=true) (h0:0<num b) (h:a.length≤8∨num a<num b):aB Tryz.prog 160 [.s a, .s b] (.tup [.s (aK (num a/num b)), .s (aK (num a%num b))]):=by
 have hc:=jn (cl ha) (cl hb)
 by_cases hlt:num a<num b
 ·have e:aT (num a) (num b)= -1:=by simp[aT,hlt]
  rw[e]at hc;have e1:aK (num a/num b)=[]:=by rw[Nat.div_eq_of_lt hlt];rfl
  have e2:aK (num a%num b)=a:=by rw[Nat.mod_eq_of_lt hlt];exact dZ ha
  refine eW Tryz.call160 Tryz.func160 ?_;repeat' first|simp only[go_sem,seval,e1,e2]|refine cP hc ?_|refine sB ?_|(first|apply pX|apply bX)<;>intro hc|refine⟨oD,?_⟩|exact oD|fail
 ·have la:a.length≤8:=h.resolve_right hlt;have lb:b.length≤8:=by
   rcases Nat.lt_or_ge a.length b.length with g|g
   ·have:=gG (a:=a) (cl hb) g;omega
   ·omega
  have sa:=iW a;have sb:=iW b;rw[ha,Bool.true_and,decide_eq_true la]at sa;rw[hb,Bool.true_and,decide_eq_true lb]at sb;have na:=cE la;have nb:=cE lb;have hc':0≤aT (num a) (num b):=by unfold aT;split<;>(try split)<;>omega
  have hq:num a/num b<18446744073709551616:=Nat.lt_of_le_of_lt (Nat.div_le_self _ _) na;have hr:num a%num b<18446744073709551616:=Nat.lt_of_le_of_lt (Nat.mod_le _ _) na;refine eW Tryz.call160 Tryz.func160 ?_;repeat' first|simp only[go_sem,seval,if_true,uw,Nat.mod_eq_of_lt hq]|refine cP hc ?_|refine cP sa ?_|refine cP sb ?_|refine cP (fI _ hq) ?_|refine cP (fI _ hr) ?_|refine sB ?_|(first|apply pX|apply bX)<;>intro hc|refine⟨oD,?_⟩|exact oD|fail
def yL (a b:Bytes):Bytes×Bytes×Int:=if aa a&&aa b then(if b=[]then([],[],11)else(aK (num a/num b),aK (num a%num b),0))else([],[],3)
theorem uC {b:Bytes} (h:Canon b) (h0:b≠[]):0<num b:=Nat.lt_of_lt_of_le (Nat.pow_pos (by decide)) (iY h h0)
theorem BA (a b:Bytes) (h:aa a=true→aa b=true→b≠[]→a.length≤8∨num a<num b):aB Tryz.prog 107 [.s a, .s b] (.tup [.s (yL a b).1, .s (yL a b).2.1,E (yL a b).2.2]):=by
 by_cases hv:aa a=true∧aa b=true
 case neg=>
  refine eW Tryz.call107 Tryz.func107 ?_;repeat' first|simp only[go_sem,seval]|refine cP (aF _) ?_|refine sB ?_|(first|apply pX|apply bX)<;>intro hc|refine⟨oD,?_⟩|exact oD|fail
  all_goals simp_all[yL]
 obtain⟨hva,hvb⟩:=hv
 by_cases hb:b=[]
 ·subst hb;refine eW Tryz.call107 Tryz.func107 ?_;repeat' first|simp only[go_sem,seval]|refine cP (aF _) ?_|refine sB ?_|(first|apply pX|apply bX)<;>intro hc|refine⟨oD,?_⟩|exact oD|fail
  all_goals simp_all[yL]
 ·have hp:=uC (cl hvb) hb;refine eW Tryz.call107 Tryz.func107 ?_;repeat' first|simp only[go_sem,seval]|refine cP (aF _) ?_|refine cP (nj hva hvb hp (h hva hvb hb)) ?_|refine sB ?_|(first|apply pX|apply bX)<;>intro hc|refine⟨oD,?_⟩|exact oD|fail
  all_goals simp_all[yL]
abbrev N (n:Nat):PV:= .s (aK n)
theorem vN {n:Nat} (h:n<18446744073709551616):aa (aK n)=true:=kA (Nat.lt_trans h (by decide+kernel))
theorem lN {n:Nat} (h:n<18446744073709551616):(aK n).length≤8:=kf.2 h
theorem lC {a b:Nat} (ha:a<18446744073709551616) (hb:b<18446744073709551616) (h0:0<b):aB Tryz.prog 107 [N a,N b] (.tup [N (a/b),N (a%b),E 0]):=by
 have:=BA (aK a) (aK b) (fun _ _ _=> .inl (lN ha))
 have e:aK b≠[]:=fun h=>by rw[eV]at h;omega
 simpa only[yL,vN ha,vN hb,Bool.and_self,if_true,e,if_false,aG]using this
theorem Et {a b:Nat} (ha:a<18446744073709551616) (hb:b<18446744073709551616) (h0:0<b):aB Tryz.prog 160 [N a,N b] (.tup [N (a/b),N (a%b)]):=by
 have:=nj (vN ha) (vN hb) (by rw[aG];exact h0) (.inl (lN ha))
 simpa only[aG]using this
theorem FE:(aK 0==([]:Bytes))=true:=rfl
theorem wX {n:Nat} (h:n≠0):(aK n==([]:Bytes))=false:=by
 rw[beq_eq_false_iff_ne];intro e;exact h (eV.1 e)
theorem Ae (m n:Nat):(aK m==aK n)=decide (m=n):=by
 rw[Bool.eq_iff_iff];simp[Af]
theorem Qi {a b:Nat} (ha:a<18446744073709551616) (hb:b<18446744073709551616):aB Tryz.prog 215 [N a,N b] (.tup [N (Nat.gcd a b),E 0]):=by
 have va:=aF (aK a);have vb:=aF (aK b);rw[vN ha]at va;rw[vN hb]at vb;refine eW Tryz.call215 Tryz.func215 ?_;repeat' first|simp only[go_sem,seval]|refine cP va ?_|refine cP vb ?_|refine sB ?_|(first|apply pX|apply bX)<;>intro hc|refine⟨oD,?_⟩|exact oD|fail
 refine aj (α:=Nat×Nat) (fun x=>x.2) (fun x=>⟨[(0, .v (N x.1)),(1, .v (N x.2))],[],_⟩) (fun x=>x.1<18446744073709551616∧x.2<18446744073709551616∧Nat.gcd x.1 x.2=Nat.gcd a b) (a,b) (fun _=>Nat.le_refl _) ⟨ha,hb,rfl⟩ ?_ ?_
 ·exact lE
 ·rintro⟨x,y⟩ ⟨hx,hy,hg⟩ R hR;simp only at hx hy hg
  by_cases h0:y=0
  ·subst h0;repeat' first|simp only[go_sem,seval,FE]|refine sB ?_|(first|apply pX|apply bX)<;>intro hc|refine⟨oD,?_⟩|exact oD|fail
   rw[←hg,Nat.gcd_zero_right]
  ·have e:=wX h0;have hd:=Et hx hy (by omega)
   repeat' first|simp only[go_sem,seval,e]|refine cP hd ?_|refine sB ?_|(first|apply pX|apply bX)<;>intro hc|refine⟨oD,?_⟩|exact oD|fail
   have hm:x%y<y:=Nat.mod_lt _ (by omega)
   refine hR (y,x%y) ⟨hy,by show x%y< _;omega,?_⟩ hm _ ?_
   ·show Nat.gcd y (x%y)= _;rw[←hg,Nat.gcd_comm x y,Nat.gcd_rec y x,Nat.gcd_comm]
   ·exact lE
theorem nn:(([]:Bytes)==[])=true:=rfl
theorem cn (c:UInt8) (r:Bytes):((c::r:Bytes)==[])=false:=rfl
def dh (n:Nat):Nat:=if n=0 then 0 else n.log2+1
theorem oO {a:Bytes} (h:aa a=true):aB Tryz.prog 126 [.s a] (E (dh (num a))):=by
 have hv:=aF a;rw[h]at hv
 cases a with
 |nil=>
  refine eW Tryz.call126 Tryz.func126 ?_;repeat' first|simp only[go_sem,seval,nn]|refine cP hv ?_|refine sB ?_|(first|apply pX|apply bX)<;>intro hc|refine⟨oD,?_⟩|exact oD|fail
  rfl
 |cons c r=>
  have hc:=cl h;have hl:=dE h;have hp:=uC hc (by simp)
  have hn:num (c::r)=c.toNat*256^r.length+num r:=rfl;have hr:=bR r;have hc0:c≠0:=by rcases hc with e|e;cases e;exact e
  have hct:0<c.toNat:=by
   rcases Nat.eq_zero_or_pos c.toNat with e|e
   ·exact absurd (UInt8.toNat_inj.1 e:c=0) hc0
   ·exact e
  have hcl:=c.toNat_lt;have hb:=kJ hct (by omega)
  have e256:256^r.length=2^(8*r.length):=by rw[show 256=2^8 from rfl,←Nat.pow_mul]
  have key:dh (num (c::r))=8*r.length+Lib.bitLen c.toNat:=by
   unfold dh;rw[if_neg (by omega)]
   have:(num (c::r)).log2=8*r.length+Lib.bitLen c.toNat-1:=by
    rw[Nat.log2_eq_iff (by omega)]
    have a1:2^(8*r.length+Lib.bitLen c.toNat-1)=2^(Lib.bitLen c.toNat-1)*256^r.length:=by rw[e256,←Nat.pow_add];congr 1;omega
    have a2:2^(8*r.length+Lib.bitLen c.toNat-1+1)=2^Lib.bitLen c.toNat*256^r.length:=by rw[e256,←Nat.pow_add];congr 1;omega
    rw[a1,a2,hn];have b1:=Nat.mul_le_mul_right (256^r.length) hb.2.1;have b2:=Nat.mul_le_mul_right (256^r.length) (show c.toNat+1≤2^Lib.bitLen c.toNat from hb.2.2)
    rw[Nat.add_mul]at b2;omega
   omega
  have hL:=zZ c.toNat (by omega)
  have hbl:=eU (x:=c.toNat) (by omega)
  have hl':r.length≤127:=by simpa using hl
  rw[key];clear hb e256 key hn hr hp hc;refine eW Tryz.call126 Tryz.func126 ?_;repeat' first|simp only[go_sem,seval,cn]|refine cP hv ?_|refine cP hL ?_|refine sB ?_|(first|apply pX|apply bX)<;>intro hc|refine⟨oD,?_⟩|exact oD|fail
  congr 1;omega
theorem OL {a b:Nat} (ha:a<9223372036854775808) (hb:b<9223372036854775808):gV .i64 (a:Int) (b:Int)=((a&&&b:Nat):Int):=by
 have h1:a&&&b<9223372036854775808:=Nat.lt_of_le_of_lt Nat.and_le_left ha;rw[gV,dr,dr,BitVec.toNat_and,BitVec.toNat_ofNat,BitVec.toNat_ofNat];show IntKind.i64.wrap ((a%2^64&&&b%2^64:Nat):Int)= _;rw[Nat.mod_eq_of_lt (by omega),Nat.mod_eq_of_lt (by omega),IntWalk.i64_in _ (by omega)]
theorem pj {a:Bytes} (h:aa a=true) (i:Nat) (hi:i<4611686018427387904):aB Tryz.prog 129 [.s a,E i] (.b ((num a).testBit i)):=by
 have hv:=aF a;rw[h]at hv;have hl:=dE h;have e0:(i:Int).tdiv 8=((i/8:Nat):Int):=rfl;have e1:(i:Int).tmod 8=((i%8:Nat):Int):=rfl;have hd:=fM a (i/8) (by omega)
 have key:(num a).testBit i=decide (num a/256^(i/8)%256/2^(i%8)%2=1):=by
  rw[Nat.testBit_eq_decide_div_mod_eq];congr 1;have e2:256^(i/8)=2^(8*(i/8)):=by rw[show 256=2^8 from rfl,←Nat.pow_mul]
  have e3:2^i=256^(i/8)*2^(i%8):=by rw[e2,←Nat.pow_add];congr 1;omega
  rw[e3,←Nat.div_div_eq_div_mul];generalize num a/256^(i/8)=z;have h8:i%8<8:=Nat.mod_lt _ (by decide)
  generalize i%8=j at h8;have:2^j*2^(8-j)=256:=by rw[←Nat.pow_add,show j+(8-j)=8 by omega]
  have e5:z%256/2^j=z/2^j%2^(8-j):=by rw[←this,Nat.mod_mul_right_div_self]
  rw[e5];have e6:2^(8-j)=2*2^(7-j):=by rw[←Nat.pow_succ'];congr 1;omega
  rw[e6,Nat.mod_mul_right_mod]
 obtain⟨d,hdd⟩: ∃d,d=num a/256^(i/8)%256:=⟨_,rfl⟩;rw[←hdd]at key hd;have hdl:d<256:=by rw[hdd];exact Nat.mod_lt _ (by decide)
 have hm: ∀ _:True,(if i%8≤64 then i%8 else 64)=i%8:=fun _=>by split<;>omega
 have ha: ∀ _:True,gV .i64 ((d/2^(i%8):Nat):Int) 1=((d/2^(i%8)%2:Nat):Int):=fun _=>by
  have hle:d/2^(i%8)≤d:=Nat.div_le_self _ _;have:=OL (a:=d/2^(i%8)) (b:=1) (by omega) (by decide)
  rw[Nat.and_one_is_mod]at this;exact this
 have hs:a.length≤i/8→d=0:=fun g=>by rw[hdd,qB a g]
 rw[key];clear key hdd;refine eW Tryz.call129 Tryz.func129 ?_;repeat' first|simp only[go_sem,seval,e0,e1,hm trivial,ha trivial]|refine cP hv ?_|refine cP hd ?_|refine sB ?_|(first|apply pX|apply bX)<;>intro hc|refine⟨oD,?_⟩|exact oD|fail
 ·congr 1;rw[Bool.eq_iff_iff];simp only[beq_iff_eq,decide_eq_true_eq];omega
 ·rw[hs (by omega)];simp
end Go.Proofs.YtmobkhegihemeaaGreatDoor
namespace Go.Dom
structure lD (a b r0 r1:Nat) (x0 x1 y0 y1:Int):Prop where
 e0:(a:Int)*x0+b*y0=r0
 e1:(a:Int)*x1+b*y1=r1
 g:Nat.gcd r0 r1=Nat.gcd a b
 hx:x1.natAbs*r0+x0.natAbs*r1≤b
 hy:y1.natAbs*r0+y0.natAbs*r1≤a
 bx0:x0.natAbs≤b
 bx1:x1.natAbs≤b
 by0:y0.natAbs≤a+1
 by1:y1.natAbs≤a+1
theorem lD.start {a b:Nat} (hb:0<b):lD a b a b 1 0 0 1:=
 ⟨by omega,by omega,rfl,by simp,by simp,by show 1≤b;omega,by simp,by simp,by simp⟩
theorem vI {x0 x1:Int} {q r0 r1 B:Nat} (hq:q=r0/r1) (h:x1.natAbs*r0+x0.natAbs*r1≤B):(x0-q*x1).natAbs*r1+x1.natAbs*(r0%r1)≤B:=by
 have h1:(x0-q*x1).natAbs≤x0.natAbs+q*x1.natAbs:=by
  have:=Int.natAbs_sub_le x0 (q*x1)
  rwa[Int.natAbs_mul,Int.natAbs_natCast]at this
 have h2:=Nat.mul_le_mul_right r1 h1;have h3:r1*q+r0%r1=r0:=by rw[hq];exact Nat.div_add_mod r0 r1
 have h4:x1.natAbs*r0=x1.natAbs*(r1*q)+x1.natAbs*(r0%r1):=by rw[←Nat.mul_add,h3]
 have h5:(x0.natAbs+q*x1.natAbs)*r1=x0.natAbs*r1+x1.natAbs*(r1*q):=by
  rw[Nat.add_mul,Nat.mul_comm q,Nat.mul_assoc,Nat.mul_comm q]
 omega
theorem lD.step {a b r0 r1:Nat} {x0 x1 y0 y1:Int} (h:lD a b r0 r1 x0 x1 y0 y1) (h1:0<r1):lD a b r1 (r0%r1) x1 (x0-(r0/r1:Nat)*x1) y1 (y0-(r0/r1:Nat)*y1):=by
 have hx:=vI (q:=r0/r1) rfl h.hx;have hy:=vI (q:=r0/r1) rfl h.hy;have le: ∀{n B:Nat} {m:Nat},n*r1+m≤B→n≤B:=fun{n B m} g=>by
  have:=Nat.le_mul_of_pos_right n h1;omega
 refine⟨h.e1,?_,?_,hx,hy,h.bx1,le hx,h.by1,?_⟩
 ·have e0:=h.e0;have e1:=h.e1;have hd:=Nat.div_add_mod r0 r1;generalize r0/r1=q at*;generalize r0%r1=t at*;have:(r0:Int)=r1*q+t:=by rw[←hd];simp
  rw[Int.mul_sub,Int.mul_sub];have e3:(a:Int)*(q*x1)=q*(a*x1):=by rw[←Int.mul_assoc,Int.mul_comm (a:Int),Int.mul_assoc]
  have e4:(b:Int)*(q*y1)=q*(b*y1):=by rw[←Int.mul_assoc,Int.mul_comm (b:Int),Int.mul_assoc]
  have e5:(q:Int)*(a*x1)+q*(b*y1)=r1*q:=by rw[←Int.mul_add,e1,Int.mul_comm]
  omega
 ·rw[←h.g,Nat.gcd_comm r0 r1,Nat.gcd_rec r1 r0,Nat.gcd_comm]
 ·have:=le hy;omega
theorem E5 {a b:Nat} {X Y:Int} (h0:0≤X) (h:(a:Int)*X+b*Y=1):a*(X.natAbs%b)%b=1%b:=by
 obtain⟨n,rfl⟩:=Int.eq_ofNat_of_zero_le h0;rw[Int.natAbs_natCast,Nat.mul_mod_mod];have e:((a*n:Nat):Int)%b=(1:Int)%b:=by
  have:((a*n:Nat):Int)=1+b*(-Y):=by simp only[Int.natCast_mul,Int.mul_neg];omega
  rw[this,Int.add_mul_emod_self_left]
 exact_mod_cast e
theorem E6 {a m i j:Nat} (hi:i<m) (hj:j<m) (h1:a*i%m=1%m) (h2:a*j%m=1%m):i=j:=by
 have e1:i*(a*j)%m=i%m:=by rw[←Nat.mul_mod_mod,h2,Nat.mul_mod_mod,Nat.mul_one]
 have e2:i*(a*j)%m=j%m:=by rw[←Nat.mul_assoc,Nat.mul_comm i a,←Nat.mod_mul_mod,h1,Nat.mod_mul_mod,Nat.one_mul]
 rw[Nat.mod_eq_of_lt hi]at e1;rw[Nat.mod_eq_of_lt hj]at e2;omega
noncomputable def cL (a m:Nat):Nat:= @dite _ (∃i,i<m∧a*i%m=1%m) (Classical.propDecidable _) (fun h=>Classical.choose h) (fun _=>0)
theorem eY {a m i:Nat} (hi:i<m) (h:a*i%m=1%m):cL a m=i:=by
 have hx: ∃i,i<m∧a*i%m=1%m:=⟨i,hi,h⟩;unfold cL;rw[dif_pos hx];obtain⟨g1,g2⟩:=Classical.choose_spec hx;exact E6 g1 hi g2 h
theorem lD.fin {a b g:Nat} {x0 x1 y0 y1:Int} (h:lD a b g 0 x0 x1 y0 y1):g=Nat.gcd a b:=by
 have:=h.g;rwa[Nat.gcd_zero_right]at this
theorem lD.inv {a b:Nat} {x0 x1 y0 y1:Int} (h:lD a b 1 0 x0 x1 y0 y1) (hb:0<b): ∀X:Int,X=(if x0<0 then x0+b else x0)→0≤X∧X≤b∧X.natAbs%b=cL a b:=by
 intro X hX;have b0:=h.bx0;have h0:0≤X:=by rw[hX];split<;>omega
 refine⟨h0,by rw[hX];split<;>omega,(eY (Nat.mod_lt _ hb) ?_).symm⟩
 have e0:=h.e0
 by_cases hx:x0<0
 ·rw[if_pos hx]at hX;refine E5 (Y:=y0-a) h0 ?_;rw[hX,Int.mul_add,Int.mul_sub,Int.mul_comm (b:Int) a];omega
 ·rw[if_neg hx]at hX;exact E5 (Y:=y0) h0 (by rw[hX];omega)
def wz:Nat→Nat→Nat→Int→Int→Int→Int→Nat×Int×Int
 |0,r0,_,x0,_,y0,_=>(r0,x0,y0)
 |f+1,r0,r1,x0,x1,y0,y1=>if r1=0 then(r0,x0,y0)else wz f r1 (r0%r1) x1 (x0-(r0/r1:Nat)*x1) y1 (y0-(r0/r1:Nat)*y1)
theorem wA {a b:Nat}: ∀{f r0 r1:Nat} {x0 x1 y0 y1:Int},r1<f→lD a b r0 r1 x0 x1 y0 y1→ ∃x' y',lD a b (wz f r0 r1 x0 x1 y0 y1).1 0 (wz f r0 r1 x0 x1 y0 y1).2.1 x' (wz f r0 r1 x0 x1 y0 y1).2.2 y'
 |0,_,_,_,_,_,_,h,_=>absurd h (Nat.not_lt_zero _)
 |f+1,r0,r1,x0,x1,y0,y1,h,hE=>by
  unfold wz;split
  ·rename_i h0;subst h0;exact⟨x1,y1,hE⟩
  ·rename_i h0;exact wA (by have:=Nat.mod_lt r0 (show 0<r1 by omega);omega) (hE.step (by omega))
structure N3 (a b g:Nat) (x y:Int):Prop where
 z:b=0→x=1∧y=0
 bx:0<b→x.natAbs≤b
 by':0<b→y.natAbs≤max a 1
 e:(a:Int)*x+b*y=g
 g:g=Nat.gcd a b
theorem N3.base (a:Nat):N3 a 0 a 1 0:=⟨fun _=>⟨rfl,rfl⟩,fun h=>by omega,fun h=>by omega,by simp,by simp⟩
theorem N3.step {a b g:Nat} {x y:Int} (hb:0<b) (h:N3 b (a%b) g x y):N3 a b g y (x-(a/b:Nat)*y):=by
 have hd:=Nat.div_add_mod a b;have hg:g=Nat.gcd a b:=by rw[h.g,Nat.gcd_comm a b,Nat.gcd_rec b a,Nat.gcd_comm]
 have he:=h.e;have e1:(a:Int)=b*(a/b:Nat)+(a%b:Nat):=by
  have:((b*(a/b)+a%b:Nat):Int)=(a:Int):=by rw[hd]
  rw[←this];simp
 rcases Nat.eq_zero_or_pos (a%b)with h0|h0
 ·obtain⟨rfl,rfl⟩:=h.z h0;refine⟨by omega,by simp,fun _=>by simp;omega,?_,hg⟩
  simp only[Int.mul_zero,Int.sub_zero,Int.mul_one,Int.zero_add,Int.add_zero]at he⊢;exact he
 ·have bx:=h.bx h0;have by1:y.natAbs≤b:=by have:=h.by' h0;omega
  refine⟨by omega,fun _=>by1,fun _=> ?_,?_,hg⟩
  ·have h1:(x-(a/b:Nat)*y).natAbs≤x.natAbs+a/b*y.natAbs:=by
    have:=Int.natAbs_sub_le x ((a/b:Nat)*y)
    rwa[Int.natAbs_mul,Int.natAbs_natCast]at this
   have h2:=Nat.mul_le_mul_left (a/b) by1;have h3:a/b*b=b*(a/b):=Nat.mul_comm _ _;omega
  ·generalize a/b=q at*;generalize a%b=t at*;rw[Int.mul_sub,e1,Int.add_mul];have e3:(b:Int)*q*y=b*(q*y):=Int.mul_assoc ..;omega
noncomputable def bJ (m x:Nat) (ng:Bool) (e:Nat):Nat:=(if ng then cL x m else x)^e%m
def bE (m x:Nat):Prop:= ∃i,i<m∧x*i%m=1%m
theorem bE.inv {m x:Nat} (h:bE m x):cL x m<m∧x*cL x m%m=1%m:=by
 obtain⟨i,h1,h2⟩:=h;rw[eY h1 h2];exact⟨h1,h2⟩
theorem bE.ON {m x:Nat} (h:bE m x) (hm:0<m):bE m (cL x m):=
 ⟨x%m,Nat.mod_lt _ hm,by rw[Nat.mul_mod_mod,Nat.mul_comm];exact h.inv.2⟩
theorem bE.pow {m x:Nat} (h:bE m x) (hm:0<m) (e:Nat):bE m (x^e%m)∧cL (x^e%m) m=cL x m^e%m:=by
 obtain⟨h1,h2⟩:=h.inv;have key:x^e%m*(cL x m^e%m)%m=1%m:=by
  rw[←Nat.mul_mod,←Nat.mul_pow,Nat.pow_mod,h2,←Nat.pow_mod,Nat.one_pow]
 have hl:cL x m^e%m<m:=Nat.mod_lt _ hm;exact⟨⟨_,hl,key⟩,eY hl key⟩
theorem bE.inv2 {m x:Nat} (h:bE m x) (hm:0<m):cL (cL x m) m=x%m:=
 eY (Nat.mod_lt _ hm) (by rw[Nat.mul_mod_mod,Nat.mul_comm];exact h.inv.2)
theorem bE.bJ {m x:Nat} (h:bE m x) (hm:0<m) (ng:Bool) (e:Nat):bE m (Dom.bJ m x ng e):=by
 unfold Dom.bJ;cases ng
 ·exact(h.pow hm e).1
 ·exact((h.ON hm).pow hm e).1
theorem bE.mul {m x y:Nat} (h:bE m x) (g:bE m y) (hm:0<m):bE m (x*y%m):=by
 obtain⟨i,h1,h2⟩:=h;obtain⟨j,g1,g2⟩:=g;refine⟨i*j%m,Nat.mod_lt _ hm,?_⟩;rw[←Nat.mul_mod];have e:x*y*(i*j)=(x*i)*(y*j):=by
  rw[Nat.mul_assoc,Nat.mul_assoc];congr 1;rw[←Nat.mul_assoc,Nat.mul_comm y i,Nat.mul_assoc]
 rw[e,Nat.mul_mod,h2,g2,←Nat.mul_mod,Nat.one_mul]
theorem fR (m x a b:Nat):(x^a%m)^b%m=x^(a*b)%m:=by rw[←Nat.pow_mod,←Nat.pow_mul]
theorem CS {m x:Nat} (h:bE m x) (hm:0<m) (n1 n2:Bool) (a b:Nat):bJ m (bJ m x n1 a) n2 b=bJ m x (n1 !=n2) (a*b):=by
 cases n1<;>cases n2
 ·simp only[bJ,Bool.false_eq_true,if_false,bne_self_eq_false,fR]
 ·have:=(h.pow hm a).2;simp only[bJ,Bool.false_eq_true,if_false,if_true,this,fR,Bool.bne_true,Bool.not_false]
 ·simp only[bJ,Bool.false_eq_true,if_false,if_true,fR,Bool.bne_false]
 ·have h1:=((h.ON hm).pow hm a).2;rw[h.inv2 hm]at h1;simp only[bJ,if_true,bne_self_eq_false,Bool.false_eq_true,if_false,h1];rw[fR,←Nat.pow_mod]
theorem nO (m x:Nat) (n:Bool):bJ m x n 0=1%m:=by simp[bJ]
theorem fU {m x:Nat} (hm:0<m) (h:Nat.gcd x m=1):bE m x:=by
 have key: ∀(n a b:Nat),b≤n→ ∃X Y:Int,(a:Int)*X+b*Y=Nat.gcd a b:=by
  intro n
  induction n with
  |zero=>
   intro a b hb;obtain rfl:b=0:=by omega
   exact⟨1,0,by simp⟩
  |succ n ih=>
   intro a b hb;rcases Nat.eq_zero_or_pos b with rfl|h0
   ·exact⟨1,0,by simp⟩
   ·obtain⟨X,Y,e⟩:=ih b (a%b) (by have:=Nat.mod_lt a h0;omega)
    refine⟨Y,X-(a/b:Nat)*Y,?_⟩;have hg:Nat.gcd b (a%b)=Nat.gcd a b:=by rw[Nat.gcd_comm a b,Nat.gcd_rec b a,Nat.gcd_comm]
    rw[←hg,←e];have e1:(a:Int)=b*(a/b:Nat)+(a%b:Nat):=by
     have:((b*(a/b)+a%b:Nat):Int)=(a:Int):=by rw[Nat.div_add_mod]
     rw[←this];simp
    generalize a/b=q at*;generalize a%b=t at*;rw[Int.mul_sub,e1,Int.add_mul];have e3:(b:Int)*q*Y=b*(q*Y):=Int.mul_assoc ..;omega
 obtain⟨X,Y,e⟩:=key m x m (Nat.le_refl _);rw[h]at e;refine⟨(X%(m:Int)).toNat,?_,?_⟩
 ·have:=Int.emod_lt_of_pos X (show(0:Int)<m by omega)
  have:=Int.emod_nonneg X (show(m:Int)≠0 by omega)
  omega
 ·have h0:=Int.emod_nonneg X (show(m:Int)≠0 by omega)
  have e2:((x*(X%(m:Int)).toNat:Nat):Int)%m=(1:Int)%m:=by
   rw[Int.natCast_mul,Int.toNat_of_nonneg h0,Int.mul_emod,Int.emod_emod_of_dvd _ (Int.dvd_refl _),←Int.mul_emod];have:(x:Int)*X=1+m*(-Y):=by rw[Int.mul_neg];simp at e;omega
   rw[this,Int.add_mul_emod_self_left]
  exact_mod_cast e2
noncomputable def bT (m x:Nat) (z:Int):Nat:=bJ m x (decide (z<0)) z.natAbs
theorem jx {m x y:Nat} (h:x*y%m=1%m) (n k:Nat):x^(n+k)*y^k%m=x^n%m:=by
 rw[Nat.pow_add,Nat.mul_assoc,←Nat.mul_pow,Nat.mul_mod,Nat.pow_mod (x*y) k m,h,←Nat.pow_mod,Nat.one_pow,←Nat.mul_mod,Nat.mul_one]
theorem dG (m x:Nat) (n:Nat):bT m x (n:Int)=x^n%m:=by
 unfold bT bJ;rw[decide_eq_false (by omega)];simp
theorem e9 {m x:Nat} (n:Nat):bT m x (-(n:Int))=cL x m^n%m:=by
 unfold bT bJ
 by_cases h:n=0
 ·subst h;simp
 ·rw[decide_eq_true (by omega)];simp
theorem qI {m x:Nat} (h:bE m x) (hm:0<m) (a b:Int):bT m x a*bT m x b%m=bT m x (a+b):=by
 obtain⟨h1,h2⟩:=h.inv;have h3:cL x m*x%m=1%m:=by rw[Nat.mul_comm];exact h2
 rcases Int.eq_nat_or_neg a with⟨n,rfl|rfl⟩<;>rcases Int.eq_nat_or_neg b with⟨k,rfl|rfl⟩
 ·rw[dG,dG,←Nat.mul_mod,←Nat.pow_add,←dG];simp
 ·rw[dG,e9,←Nat.mul_mod];rcases Nat.le_total k n with hk|hk
  ·obtain⟨d,rfl⟩:=Nat.exists_eq_add_of_le hk;rw[Nat.add_comm k d,jx h2,←dG];congr 1;omega
  ·obtain⟨d,rfl⟩:=Nat.exists_eq_add_of_le hk;rw[Nat.mul_comm,Nat.add_comm n d,jx h3,←e9];congr 1;omega
 ·rw[dG,e9,←Nat.mul_mod];rcases Nat.le_total k n with hk|hk
  ·obtain⟨d,rfl⟩:=Nat.exists_eq_add_of_le hk;rw[Nat.add_comm k d,jx h3,←e9];congr 1;omega
  ·obtain⟨d,rfl⟩:=Nat.exists_eq_add_of_le hk;rw[Nat.mul_comm,Nat.add_comm n d,jx h2,←dG];congr 1;omega
 ·rw[e9,e9,←Nat.mul_mod,←Nat.pow_add,←e9];congr 1;omega
theorem F4 {m x:Nat} (h:bE m x) (hm:0<m) (w c:Nat):bT m (x^w%m) (-(c:Int))=bT m x (-((c*w:Nat):Int)):=by
 rw[e9,e9,(h.pow hm w).2,fR,Nat.mul_comm c w]
theorem xr {m x:Nat} (h:bE m x) (hm:0<m) (a:Int) (w c:Nat):bT m (x^w%m) (-(c:Int))*bT m x (a+(c*w:Nat))%m=bT m x a:=by
 rw[F4 h hm,qI h hm];congr 1;omega
def pp (l:List (Nat×Nat)) (k:Nat):Nat:=l.foldr (fun p a=>p.1^(p.2/2^k)*a) 1
def pb (l:List (Nat×Nat)) (k:Nat):Nat:=l.foldr (fun p a=>p.1^(p.2/2^k%2)*a) 1
theorem o6 (p:Nat×Nat) (l:List (Nat×Nat)) (k:Nat):pp (p::l) k=p.1^(p.2/2^k)*pp l k:=rfl
theorem uF (p:Nat×Nat) (l:List (Nat×Nat)) (k:Nat):pb (p::l) k=p.1^(p.2/2^k%2)*pb l k:=rfl
theorem Jg (l:List (Nat×Nat)) (p:Nat×Nat) (k:Nat):pb (l++[p]) k=pb l k*p.1^(p.2/2^k%2):=by
 induction l with
 |nil=>simp[pb]
 |cons q l ih=>rw[List.cons_append,uF,uF,ih,Nat.mul_assoc]
theorem Jj (l:List (Nat×Nat)) (k:Nat):pp l k=pp l (k+1)*pp l (k+1)*pb l k:=by
 induction l with
 |nil=>rfl
 |cons p l ih=>
  rw[o6,o6,uF,ih];have e:p.2/2^k=p.2/2^(k+1)+p.2/2^(k+1)+p.2/2^k%2:=by
   have:p.2/2^(k+1)=p.2/2^k/2:=by rw[Nat.pow_succ,Nat.div_div_eq_div_mul]
   omega
  rw[e,Nat.pow_add,Nat.pow_add,←e];generalize p.1^(p.2/2^(k+1))=a;generalize p.1^(p.2/2^k%2)=b;generalize pp l (k+1)=c;generalize pb l k=d;simp only[Nat.mul_assoc,Nat.mul_left_comm,Nat.mul_comm]
theorem Nc {l:List (Nat×Nat)} {k:Nat} (h: ∀p∈l,p.2<2^k):pp l k=1:=by
 induction l with
 |nil=>rfl
 |cons p l ih=>
  rw[o6,ih fun q hq=>h q (List.mem_cons_of_mem _ hq),Nat.div_eq_of_lt (h p (List.mem_cons_self ..))];rfl
noncomputable def Kl (M:Nat) (x:Nat) (e:Bool×Bytes):Nat:=if e.1 then cL x M else x
noncomputable def uH (M:Nat) (l:List (Nat×(Bool×Bytes))):Nat:=pp (l.map fun p=>(Kl M p.1 p.2,num p.2.2)) 0%M
theorem Jl (M:Nat):uH M []=1%M:=rfl
theorem F5 (p:Nat×Nat) (l:List (Nat×Nat)):pp (p::l) 0=p.1^p.2*pp l 0:=by rw[o6,Nat.pow_zero,Nat.div_one]
theorem mB (M:Nat) (x:Nat) (e:Bool×Bytes) (l:List (Nat×(Bool×Bytes))):uH M ((x,e)::l)=bJ M x e.1 (num e.2)*uH M l%M:=by
 unfold uH bJ;rw[List.map_cons,F5,←Nat.mul_mod];rfl
theorem o9 (M:Nat) (x:Nat) (e:Bool×Bytes):uH M [(x,e)]=bJ M x e.1 (num e.2):=by
 rw[mB,Jl,Nat.mul_mod_mod,Nat.mul_one];unfold bJ;rw[Nat.mod_mod]
theorem nM (m x:Nat):bT m x 0=1%m:=nO _ _ _
theorem fx {m x:Nat} (h:bE m x) (hm:0<m) (a b:Int):bT m (bT m x a) b=bT m x (a*b):=by
 unfold bT;rw[CS h hm,Int.natAbs_mul]
 by_cases h0:a.natAbs*b.natAbs=0
 ·rw[h0,nO,nO]
 ·congr 1;have ha:a≠0:=fun e=>h0 (by simp[e])
  have hb:b≠0:=fun e=>h0 (by simp[e])
  rw[Bool.eq_iff_iff];simp only[bne_iff_ne,ne_eq,decide_eq_decide,decide_eq_true_eq];rcases Int.lt_or_gt_of_ne ha with h1|h1<;>rcases Int.lt_or_gt_of_ne hb with h2|h2
  ·have:=Int.mul_pos_of_neg_of_neg h1 h2;generalize a*b=c at*;omega
  ·have:=Int.mul_neg_of_neg_of_pos h1 h2;generalize a*b=c at*;omega
  ·have:=Int.mul_neg_of_pos_of_neg h1 h2;generalize a*b=c at*;omega
  ·have:=Int.mul_pos h1 h2;generalize a*b=c at*;omega
theorem EZ {m x y:Nat} (h:bE m x) (g:bE m y) (hm:0<m):cL (x*y%m) m=cL x m*cL y m%m:=by
 refine eY (Nat.mod_lt _ hm) ?_;rw[←Nat.mul_mod,show x*y*(cL x m*cL y m)=(x*cL x m)*(y*cL y m) by rw[Nat.mul_assoc,Nat.mul_assoc];congr 1;rw[←Nat.mul_assoc,Nat.mul_comm y,Nat.mul_assoc],Nat.mul_mod,h.inv.2,g.inv.2,←Nat.mul_mod,Nat.one_mul]
theorem F3 {m x y:Nat} (h:bE m x) (g:bE m y) (hm:0<m) (z:Int):bT m (x*y%m) z=bT m x z*bT m y z%m:=by
 unfold bT bJ
 cases decide (z<0)
 ·simp only[Bool.false_eq_true,if_false];rw[←Nat.pow_mod,Nat.mul_pow,Nat.mul_mod]
 ·simp only[if_true];rw[EZ h g hm,←Nat.pow_mod,Nat.mul_pow,Nat.mul_mod]
theorem ti {m x:Nat} (h:bE m x) (hm:0<m) (z:Int):bE m (bT m x z):=h.bJ hm _ _
theorem jW (m x:Nat) (z:Int):bT m x z%m=bT m x z:=Nat.mod_mod _ _
noncomputable def rq (m:Nat):List (Nat×Int)→Nat
 |[]=>1%m
 |p::l=>bT m p.1 p.2*rq m l%m
theorem Jk (m:Nat) (l:List (Nat×Int)):rq m l%m=rq m l:=by cases l<;>exact Nat.mod_mod _ _
theorem x5 {m:Nat} (hm:0<m):bE m (1%m):=⟨1%m,Nat.mod_lt _ hm,by rw[←Nat.mul_mod,Nat.one_mul]⟩
variable {α:Type} {m:Nat} (b:α→Nat)
theorem mz {x o:Nat} (hx:bE m x) (hm:0<m) (ho:x^o%m=1%m) {a c:Int} (h:(o:Int)∣a-c):bT m x a=bT m x c:=by
 obtain⟨k,hk⟩:=h;have e:a=c+o*k:=by omega
 have h1:bT m x (o*k)=1%m:=by
  rw[←fx hx hm,dG,ho];have:=fx (x5 hm) hm 0 k
  rwa[Int.zero_mul,nM]at this
 rw[e,←qI hx hm,h1,Nat.mul_mod_mod,Nat.mul_one,jW]
theorem Jm (l:List (Nat×Int)) (g:Nat×Int→Nat×(Bool×Bytes)) (hg: ∀p,g p=(p.1,(decide (p.2<0),aK p.2.natAbs))):uH m (l.map g)=rq m l:=by
 induction l with
 |nil=>rfl
 |cons p l ih=>rw[List.map_cons,hg,mB,ih,rq,aG];rfl
end Go.Dom
namespace Go.Proofs.YtmobkhegihemeaaGreatDoor
open Go Go.Dom
set_option maxRecDepth 100000
def zs (x:Int):Bool:=decide (x<0)
def zb (x:Int):Bytes:=aK x.natAbs
abbrev Z (x:Int):PV:= .agg [.b (zs x), .s (zb x)]
def dA:Nat:=340282366920938463463374607431768211456
theorem Dj:dA≤dt:=by unfold dt dA;decide+kernel
theorem J4:dA*dA≤dt:=by unfold dt dA;decide+kernel
theorem vB {n:Nat} (h:n<dt):aa (aK n)=true:=kA h
theorem vu (n:Nat):zb (n:Int)=aK n:=rfl
theorem vz (n:Nat):zs (n:Int)=false:=by simp[zs]
theorem uD (x:Int):num (zb x)=x.natAbs:=aG _
theorem NJ (x:Int):(zb x==([]:Bytes))=decide (x=0):=by
 unfold zb;rw[Bool.eq_iff_iff];simp[eV]
theorem P3 {x:Int} (h:x.natAbs<dt):(aa (zb x)&& !(zs x&&zb x==[]))=true:=by
 rw[NJ,show aa (zb x)=true from vB h]
 simp[zs];omega
theorem SN (b:Bool) (n:Nat):(.agg [.b (b&& !(aK n==[])),N n]:PV)=Z (if b then-(n:Int)else n):=by
 by_cases h:n=0
 ·subst h;cases b<;>rfl
 ·have e:(aK n==([]:Bytes))=false:=wX h;cases b
  ·simp[Z,zs,zb]
  ·have:decide (-(n:Int)<0)=true:=decide_eq_true (by omega)
   simp[Z,zs,zb,e,h];omega
theorem Rs (x y:Int):(if(zs x !=zs y)then-((x.natAbs*y.natAbs:Nat):Int)else((x.natAbs*y.natAbs:Nat):Int))=x*y:=by
 rw[Int.natCast_mul];unfold zs
 by_cases h1:x<0<;>by_cases h2:y<0<;>simp only[h1,h2,decide_true,decide_false,bne_self_eq_false,Bool.false_eq_true,if_false]
 ·have e1:(x.natAbs:Int)= -x:=by omega
  have e2:(y.natAbs:Int)= -y:=by omega
  rw[e1,e2,Int.neg_mul_neg]
 ·have e1:(x.natAbs:Int)= -x:=by omega
  have e2:(y.natAbs:Int)=y:=by omega
  simp only[Bool.bne_false,if_true];rw[e1,e2,Int.neg_mul,Int.neg_neg]
 ·have e1:(x.natAbs:Int)=x:=by omega
  have e2:(y.natAbs:Int)= -y:=by omega
  simp only[Bool.false_bne,if_true];rw[e1,e2,Int.mul_neg,Int.neg_neg]
 ·have e1:(x.natAbs:Int)=x:=by omega
  have e2:(y.natAbs:Int)=y:=by omega
  rw[e1,e2]
theorem P1 {x y:Int} (h:zs x=zs y):(if zs x then-((x.natAbs+y.natAbs:Nat):Int)else((x.natAbs+y.natAbs:Nat):Int))=x+y:=by
 unfold zs at*
 by_cases h1:x<0<;>by_cases h2:y<0<;>simp[h1,h2]at h⊢ <;>omega
theorem KQ {x y:Int} (h:zs x≠zs y) (hl:y.natAbs≤x.natAbs):(if zs x then-((x.natAbs-y.natAbs:Nat):Int)else((x.natAbs-y.natAbs:Nat):Int))=x+y:=by
 unfold zs at*
 by_cases h1:x<0<;>by_cases h2:y<0<;>simp[h1,h2]at h⊢ <;>omega
theorem P2 {x y:Int} (h:zs x≠zs y) (hl:x.natAbs≤y.natAbs):(if zs y then-((y.natAbs-x.natAbs:Nat):Int)else((y.natAbs-x.natAbs:Nat):Int))=x+y:=by
 rw[Int.add_comm];exact KQ (Ne.symm h) hl
theorem Rt (y:Int):(if !zs y then-(y.natAbs:Int)else(y.natAbs:Int))= -y:=by
 unfold zs
 by_cases h:y<0<;>simp[h]<;>omega
theorem kj {a b:Nat}:(0≤aT a b)↔b≤a:=by unfold aT;split<;>(try split)<;>omega
end Go.Proofs.YtmobkhegihemeaaGreatDoor
