/-
  Part of the proof, part Y30. Own work.
-/
import Derived.Test.YtmledjfbgjnknaaGreatDoorY28
set_option linter.all false
namespace Go.Dom
structure ExtE (a b r0 r1:Nat) (x0 x1 y0 y1:Int):Prop where
 e0:(a:Int)*x0+b*y0=r0
 e1:(a:Int)*x1+b*y1=r1
 g:Nat.gcd r0 r1=Nat.gcd a b
 hx:x1.natAbs*r0+x0.natAbs*r1≤b
 hy:y1.natAbs*r0+y0.natAbs*r1≤a
 bx0:x0.natAbs≤b
 bx1:x1.natAbs≤b
 by0:y0.natAbs≤a+1
 by1:y1.natAbs≤a+1
theorem ExtE.start {a b:Nat} (hb:0<b):ExtE a b a b 1 0 0 1:=
 ⟨by omega,by omega,rfl,by simp,by simp,by show 1≤b;omega,by simp,by simp,by simp⟩
theorem abs_step {x0 x1:Int} {q r0 r1 B:Nat} (hq:q=r0/r1) (h:x1.natAbs*r0+x0.natAbs*r1≤B):(x0-q*x1).natAbs*r1+x1.natAbs*(r0%r1)≤B:=by
 have h1:(x0-q*x1).natAbs≤x0.natAbs+q*x1.natAbs:=by
  have:=Int.natAbs_sub_le x0 (q*x1)
  rwa[Int.natAbs_mul,Int.natAbs_natCast]at this
 have h2:=Nat.mul_le_mul_right r1 h1;have h3:r1*q+r0%r1=r0:=by rw[hq];exact Nat.div_add_mod r0 r1
 have h4:x1.natAbs*r0=x1.natAbs*(r1*q)+x1.natAbs*(r0%r1):=by rw[←Nat.mul_add,h3]
 have h5:(x0.natAbs+q*x1.natAbs)*r1=x0.natAbs*r1+x1.natAbs*(r1*q):=by
  rw[Nat.add_mul,Nat.mul_comm q,Nat.mul_assoc,Nat.mul_comm q]
 omega
theorem ExtE.step {a b r0 r1:Nat} {x0 x1 y0 y1:Int} (h:ExtE a b r0 r1 x0 x1 y0 y1) (h1:0<r1):ExtE a b r1 (r0%r1) x1 (x0-(r0/r1:Nat)*x1) y1 (y0-(r0/r1:Nat)*y1):=by
 have hx:=abs_step (q:=r0/r1) rfl h.hx;have hy:=abs_step (q:=r0/r1) rfl h.hy;have le: ∀{n B:Nat} {m:Nat},n*r1+m≤B→n≤B:=fun{n B m} g=>by
  have:=Nat.le_mul_of_pos_right n h1;omega
 refine⟨h.e1,?_,?_,hx,hy,h.bx1,le hx,h.by1,?_⟩
 ·have e0:=h.e0;have e1:=h.e1;have hd:=Nat.div_add_mod r0 r1;generalize r0/r1=q at*;generalize r0%r1=t at*;have:(r0:Int)=r1*q+t:=by rw[←hd];simp
  rw[Int.mul_sub,Int.mul_sub];have e3:(a:Int)*(q*x1)=q*(a*x1):=by rw[←Int.mul_assoc,Int.mul_comm (a:Int),Int.mul_assoc]
  have e4:(b:Int)*(q*y1)=q*(b*y1):=by rw[←Int.mul_assoc,Int.mul_comm (b:Int),Int.mul_assoc]
  have e5:(q:Int)*(a*x1)+q*(b*y1)=r1*q:=by rw[←Int.mul_add,e1,Int.mul_comm]
  omega
 ·rw[←h.g,Nat.gcd_comm r0 r1,Nat.gcd_rec r1 r0,Nat.gcd_comm]
 ·have:=le hy;omega
theorem inv_of {a b:Nat} {X Y:Int} (h0:0≤X) (h:(a:Int)*X+b*Y=1):a*(X.natAbs%b)%b=1%b:=by
 obtain⟨n,rfl⟩:=Int.eq_ofNat_of_zero_le h0;rw[Int.natAbs_natCast,Nat.mul_mod_mod];have e:((a*n:Nat):Int)%b=(1:Int)%b:=by
  have:((a*n:Nat):Int)=1+b*(-Y):=by simp only[Int.natCast_mul,Int.mul_neg];omega
  rw[this,Int.add_mul_emod_self_left]
 exact_mod_cast e
theorem inv_uniq {a m i j:Nat} (hi:i<m) (hj:j<m) (h1:a*i%m=1%m) (h2:a*j%m=1%m):i=j:=by
 have e1:i*(a*j)%m=i%m:=by rw[←Nat.mul_mod_mod,h2,Nat.mul_mod_mod,Nat.mul_one]
 have e2:i*(a*j)%m=j%m:=by rw[←Nat.mul_assoc,Nat.mul_comm i a,←Nat.mod_mul_mod,h1,Nat.mod_mul_mod,Nat.one_mul]
 rw[Nat.mod_eq_of_lt hi]at e1;rw[Nat.mod_eq_of_lt hj]at e2;omega
noncomputable def invN (a m:Nat):Nat:= @dite _ (∃i,i<m∧a*i%m=1%m) (Classical.propDecidable _) (fun h=>Classical.choose h) (fun _=>0)
theorem invN_eq {a m i:Nat} (hi:i<m) (h:a*i%m=1%m):invN a m=i:=by
 have hx: ∃i,i<m∧a*i%m=1%m:=⟨i,hi,h⟩;unfold invN;rw[dif_pos hx];obtain⟨g1,g2⟩:=Classical.choose_spec hx;exact inv_uniq g1 hi g2 h
theorem ExtE.fin {a b g:Nat} {x0 x1 y0 y1:Int} (h:ExtE a b g 0 x0 x1 y0 y1):g=Nat.gcd a b:=by
 have:=h.g;rwa[Nat.gcd_zero_right]at this
theorem ExtE.inv {a b:Nat} {x0 x1 y0 y1:Int} (h:ExtE a b 1 0 x0 x1 y0 y1) (hb:0<b): ∀X:Int,X=(if x0<0 then x0+b else x0)→0≤X∧X≤b∧X.natAbs%b=invN a b:=by
 intro X hX;have b0:=h.bx0;have h0:0≤X:=by rw[hX];split<;>omega
 refine⟨h0,by rw[hX];split<;>omega,(invN_eq (Nat.mod_lt _ hb) ?_).symm⟩
 have e0:=h.e0
 by_cases hx:x0<0
 ·rw[if_pos hx]at hX;refine inv_of (Y:=y0-a) h0 ?_;rw[hX,Int.mul_add,Int.mul_sub,Int.mul_comm (b:Int) a];omega
 ·rw[if_neg hx]at hX;exact inv_of (Y:=y0) h0 (by rw[hX];omega)
def extF:Nat→Nat→Nat→Int→Int→Int→Int→Nat×Int×Int
 |0,r0,_,x0,_,y0,_=>(r0,x0,y0)
 |f+1,r0,r1,x0,x1,y0,y1=>if r1=0 then(r0,x0,y0)else extF f r1 (r0%r1) x1 (x0-(r0/r1:Nat)*x1) y1 (y0-(r0/r1:Nat)*y1)
theorem extF_end {a b:Nat}: ∀{f r0 r1:Nat} {x0 x1 y0 y1:Int},r1<f→ExtE a b r0 r1 x0 x1 y0 y1→ ∃x' y',ExtE a b (extF f r0 r1 x0 x1 y0 y1).1 0 (extF f r0 r1 x0 x1 y0 y1).2.1 x' (extF f r0 r1 x0 x1 y0 y1).2.2 y'
 |0,_,_,_,_,_,_,h,_=>absurd h (Nat.not_lt_zero _)
 |f+1,r0,r1,x0,x1,y0,y1,h,hE=>by
  unfold extF;split
  ·rename_i h0;subst h0;exact⟨x1,y1,hE⟩
  ·rename_i h0;exact extF_end (by have:=Nat.mod_lt r0 (show 0<r1 by omega);omega) (hE.step (by omega))
structure Bez (a b g:Nat) (x y:Int):Prop where
 z:b=0→x=1∧y=0
 bx:0<b→x.natAbs≤b
 by':0<b→y.natAbs≤max a 1
 e:(a:Int)*x+b*y=g
 g:g=Nat.gcd a b
theorem Bez.base (a:Nat):Bez a 0 a 1 0:=⟨fun _=>⟨rfl,rfl⟩,fun h=>by omega,fun h=>by omega,by simp,by simp⟩
theorem Bez.step {a b g:Nat} {x y:Int} (hb:0<b) (h:Bez b (a%b) g x y):Bez a b g y (x-(a/b:Nat)*y):=by
 have hd:=Nat.div_add_mod a b;have hg:g=Nat.gcd a b:=by rw[h.g,Nat.gcd_comm a b,Nat.gcd_rec b a,Nat.gcd_comm]
 have he:=h.e;have e1:(a:Int)=b*(a/b:Nat)+(a%b:Nat):=by
  have:((b*(a/b)+a%b:Nat):Int)=(a:Int):=by rw[hd]
  rw[←this];simp
 rcases Nat.eq_zero_or_pos (a%b)with h0|h0
 ·obtain⟨rfl,rfl⟩:=h.z h0;refine⟨by omega,by simp,fun _=>by simp;omega,?_,hg⟩
  simp only[Int.mul_zero,Int.sub_zero,Int.mul_one,Int.zero_add,Int.add_zero]at he⊢;exact he
 ·have bx:=h.bx h0;have by1:y.natAbs≤b:=by have:=h.by' h0;omega
  refine⟨by omega,fun _=>by1,fun _=> ?_,?_,hg⟩
  ·have h1:(x-(a/b:Nat)*y).natAbs≤x.natAbs+a/b*y.natAbs:=by
    have:=Int.natAbs_sub_le x ((a/b:Nat)*y)
    rwa[Int.natAbs_mul,Int.natAbs_natCast]at this
   have h2:=Nat.mul_le_mul_left (a/b) by1;have h3:a/b*b=b*(a/b):=Nat.mul_comm _ _;omega
  ·generalize a/b=q at*;generalize a%b=t at*;rw[Int.mul_sub,e1,Int.add_mul];have e3:(b:Int)*q*y=b*(q*y):=Int.mul_assoc ..;omega
end Go.Dom
namespace Go.Proofs.YtmledjfbgjnknaaGreatDoor
open Go Go.Dom
set_option maxRecDepth 100000
def zs (x:Int):Bool:=decide (x<0)
def zb (x:Int):Bytes:=bts x.natAbs
abbrev Z (x:Int):PV:= .agg [.b (zs x), .s (zb x)]
def W128:Nat:=340282366920938463463374607431768211456
theorem w128:W128≤LIM:=by unfold LIM W128;decide+kernel
theorem w256:W128*W128≤LIM:=by unfold LIM W128;decide+kernel
theorem vB {n:Nat} (h:n<LIM):validN (bts n)=true:=valid_bts h
theorem zb_nat (n:Nat):zb (n:Int)=bts n:=rfl
theorem zs_nat (n:Nat):zs (n:Int)=false:=by simp[zs]
theorem num_zb (x:Int):num (zb x)=x.natAbs:=num_bts _
theorem zb_nil (x:Int):(zb x==([]:Bytes))=decide (x=0):=by
 unfold zb;rw[Bool.eq_iff_iff];simp[bts_nil]
theorem zval {x:Int} (h:x.natAbs<LIM):(validN (zb x)&& !(zs x&&zb x==[]))=true:=by
 rw[zb_nil,show validN (zb x)=true from vB h]
 simp[zs];omega
theorem zmk (b:Bool) (n:Nat):(.agg [.b (b&& !(bts n==[])),N n]:PV)=Z (if b then-(n:Int)else n):=by
 by_cases h:n=0
 ·subst h;cases b<;>rfl
 ·have e:(bts n==([]:Bytes))=false:=nilF h;cases b
  ·simp[Z,zs,zb]
  ·have:decide (-(n:Int)<0)=true:=decide_eq_true (by omega)
   simp[Z,zs,zb,e,h];omega
theorem zmul (x y:Int):(if(zs x !=zs y)then-((x.natAbs*y.natAbs:Nat):Int)else((x.natAbs*y.natAbs:Nat):Int))=x*y:=by
 rw[Int.natCast_mul];unfold zs
 by_cases h1:x<0<;>by_cases h2:y<0<;>simp only[h1,h2,decide_true,decide_false,bne_self_eq_false,Bool.false_eq_true,if_false]
 ·have e1:(x.natAbs:Int)= -x:=by omega
  have e2:(y.natAbs:Int)= -y:=by omega
  rw[e1,e2,Int.neg_mul_neg]
 ·have e1:(x.natAbs:Int)= -x:=by omega
  have e2:(y.natAbs:Int)=y:=by omega
  simp only[Bool.bne_false,if_true];rw[e1,e2,Int.neg_mul,Int.neg_neg]
 ·have e1:(x.natAbs:Int)=x:=by omega
  have e2:(y.natAbs:Int)= -y:=by omega
  simp only[Bool.false_bne,if_true];rw[e1,e2,Int.mul_neg,Int.neg_neg]
 ·have e1:(x.natAbs:Int)=x:=by omega
  have e2:(y.natAbs:Int)=y:=by omega
  rw[e1,e2]
theorem zadd1 {x y:Int} (h:zs x=zs y):(if zs x then-((x.natAbs+y.natAbs:Nat):Int)else((x.natAbs+y.natAbs:Nat):Int))=x+y:=by
 unfold zs at*
 by_cases h1:x<0<;>by_cases h2:y<0<;>simp[h1,h2]at h⊢ <;>omega
theorem zadd2 {x y:Int} (h:zs x≠zs y) (hl:y.natAbs≤x.natAbs):(if zs x then-((x.natAbs-y.natAbs:Nat):Int)else((x.natAbs-y.natAbs:Nat):Int))=x+y:=by
 unfold zs at*
 by_cases h1:x<0<;>by_cases h2:y<0<;>simp[h1,h2]at h⊢ <;>omega
theorem zadd3 {x y:Int} (h:zs x≠zs y) (hl:x.natAbs≤y.natAbs):(if zs y then-((y.natAbs-x.natAbs:Nat):Int)else((y.natAbs-x.natAbs:Nat):Int))=x+y:=by
 rw[Int.add_comm];exact zadd2 (Ne.symm h) hl
theorem zneg (y:Int):(if !zs y then-(y.natAbs:Int)else(y.natAbs:Int))= -y:=by
 unfold zs
 by_cases h:y<0<;>simp[h]<;>omega
theorem cmpN_ge {a b:Nat}:(0≤cmpN a b)↔b≤a:=by unfold cmpN;split<;>(try split)<;>omega
end Go.Proofs.YtmledjfbgjnknaaGreatDoor
namespace Go.Dom
noncomputable def powZ (m x:Nat) (ng:Bool) (e:Nat):Nat:=(if ng then invN x m else x)^e%m
def Unit' (m x:Nat):Prop:= ∃i,i<m∧x*i%m=1%m
theorem Unit'.inv {m x:Nat} (h:Unit' m x):invN x m<m∧x*invN x m%m=1%m:=by
 obtain⟨i,h1,h2⟩:=h;rw[invN_eq h1 h2];exact⟨h1,h2⟩
theorem Unit'.inv' {m x:Nat} (h:Unit' m x) (hm:0<m):Unit' m (invN x m):=
 ⟨x%m,Nat.mod_lt _ hm,by rw[Nat.mul_mod_mod,Nat.mul_comm];exact h.inv.2⟩
theorem Unit'.pow {m x:Nat} (h:Unit' m x) (hm:0<m) (e:Nat):Unit' m (x^e%m)∧invN (x^e%m) m=invN x m^e%m:=by
 obtain⟨h1,h2⟩:=h.inv;have key:x^e%m*(invN x m^e%m)%m=1%m:=by
  rw[←Nat.mul_mod,←Nat.mul_pow,Nat.pow_mod,h2,←Nat.pow_mod,Nat.one_pow]
 have hl:invN x m^e%m<m:=Nat.mod_lt _ hm;exact⟨⟨_,hl,key⟩,invN_eq hl key⟩
theorem Unit'.powZ {m x:Nat} (h:Unit' m x) (hm:0<m) (ng:Bool) (e:Nat):Unit' m (Dom.powZ m x ng e):=by
 unfold Dom.powZ;cases ng
 ·exact(h.pow hm e).1
 ·exact((h.inv' hm).pow hm e).1
theorem Unit'.mul {m x y:Nat} (h:Unit' m x) (g:Unit' m y) (hm:0<m):Unit' m (x*y%m):=by
 obtain⟨i,h1,h2⟩:=h;obtain⟨j,g1,g2⟩:=g;refine⟨i*j%m,Nat.mod_lt _ hm,?_⟩;rw[←Nat.mul_mod];have e:x*y*(i*j)=(x*i)*(y*j):=by
  rw[Nat.mul_assoc,Nat.mul_assoc];congr 1;rw[←Nat.mul_assoc,Nat.mul_comm y i,Nat.mul_assoc]
 rw[e,Nat.mul_mod,h2,g2,←Nat.mul_mod,Nat.one_mul]
theorem pow_pow_mod (m x a b:Nat):(x^a%m)^b%m=x^(a*b)%m:=by rw[←Nat.pow_mod,←Nat.pow_mul]
theorem powZ_one {m x:Nat} (hx:x<m):powZ m x false 1=x:=by simp[powZ,Nat.mod_eq_of_lt hx]
theorem unit_of_gcd {m x:Nat} (hm:0<m) (h:Nat.gcd x m=1):Unit' m x:=by
 have key: ∀(n a b:Nat),b≤n→ ∃X Y:Int,(a:Int)*X+b*Y=Nat.gcd a b:=by
  intro n
  induction n with
  |zero=>
   intro a b hb;obtain rfl:b=0:=by omega
   exact⟨1,0,by simp⟩
  |succ n ih=>
   intro a b hb;rcases Nat.eq_zero_or_pos b with rfl|h0
   ·exact⟨1,0,by simp⟩
   ·obtain⟨X,Y,e⟩:=ih b (a%b) (by have:=Nat.mod_lt a h0;omega)
    refine⟨Y,X-(a/b:Nat)*Y,?_⟩;have hg:Nat.gcd b (a%b)=Nat.gcd a b:=by rw[Nat.gcd_comm a b,Nat.gcd_rec b a,Nat.gcd_comm]
    rw[←hg,←e];have e1:(a:Int)=b*(a/b:Nat)+(a%b:Nat):=by
     have:((b*(a/b)+a%b:Nat):Int)=(a:Int):=by rw[Nat.div_add_mod]
     rw[←this];simp
    generalize a/b=q at*;generalize a%b=t at*;rw[Int.mul_sub,e1,Int.add_mul];have e3:(b:Int)*q*Y=b*(q*Y):=Int.mul_assoc ..;omega
 obtain⟨X,Y,e⟩:=key m x m (Nat.le_refl _);rw[h]at e;refine⟨(X%(m:Int)).toNat,?_,?_⟩
 ·have:=Int.emod_lt_of_pos X (show(0:Int)<m by omega)
  have:=Int.emod_nonneg X (show(m:Int)≠0 by omega)
  omega
 ·have h0:=Int.emod_nonneg X (show(m:Int)≠0 by omega)
  have e2:((x*(X%(m:Int)).toNat:Nat):Int)%m=(1:Int)%m:=by
   rw[Int.natCast_mul,Int.toNat_of_nonneg h0,Int.mul_emod,Int.emod_emod_of_dvd _ (Int.dvd_refl _),←Int.mul_emod];have:(x:Int)*X=1+m*(-Y):=by rw[Int.mul_neg];simp at e;omega
   rw[this,Int.add_mul_emod_self_left]
  exact_mod_cast e2
end Go.Dom
namespace Go.Proofs.YtmledjfbgjnknaaGreatDoor
open Go Go.Dom Go.Num
set_option maxRecDepth 100000
set_option maxHeartbeats 8000000
theorem mulN {a b:Nat} (h:a*b<LIM) (ha:a<LIM) (hb:b<LIM):EvP Tryz.prog 86 [N a,N b] (.tup [N (a*b),E 0]):=by
 have:=Mul_ok (bts a) (bts b);simp only[mulB,vB ha,vB hb,Bool.and_self,if_true,num_bts,h]at this;exact this
theorem addN {a b:Nat} (h:a+b<LIM):EvP Tryz.prog 347 [N a,N b] (.tup [N (a+b),E 0]):=by
 have:=Add_ok (bts a) (bts b);simp only[addB,vB (show a<LIM by omega),vB (show b<LIM by omega),Bool.and_self,if_true,num_bts,h]at this
 exact this
theorem subN {a b:Nat} (h:b≤a) (ha:a<LIM):EvP Tryz.prog 104 [N a,N b] (.tup [N (a-b),E 0]):=by
 have:=Sub_ok (bts a) (bts b);simp only[subB,vB ha,vB (show b<LIM by omega),Bool.and_self,if_true,num_bts,h]at this
 exact this
theorem cmpNN {a b:Nat} (ha:a<LIM) (hb:b<LIM):EvP Tryz.prog 85 [N a,N b] (E (cmpN a b)):=by
 have:=Cmp_ok (bts a) (bts b);simp only[vB ha,vB hb,Bool.and_self,if_true,num_bts]at this;exact this
theorem validZ {x:Int} (h:x.natAbs<LIM):EvP Tryz.prog 109 [Z x] (.b true):=by
 have:=iValid_ok (zs x) (zb x)
 rwa[zval h]at this
theorem bothZ {x y:Int} (hx:x.natAbs<LIM) (hy:y.natAbs<LIM):EvP Tryz.prog 359 [Z x,Z y] (.b true):=by
 have v1:=validZ hx;have v2:=validZ hy;refine eW Tryz.call359 Tryz.func359 ?_;repeat' first|simp only[go_sem,seval,Z]|refine cP v1 ?_|refine cP v2 ?_|refine sB ?_|(first|apply pX|apply bX)<;>intro hc|refine⟨oD,?_⟩|exact oD|fail
theorem madeZ (b:Bool) (n:Nat) {z:Int} (h:(if b then-(n:Int)else n)=z):EvP Tryz.prog 52 [.b b,N n] (Z z):=by
 have:=made_ok b (bts n);rw[zmk,h]at this;exact this
theorem FromZ {n:Nat} (h:n<LIM):EvP Tryz.prog 21 [N n] (Z n):=From_ok (vB h)
theorem Of1Z:EvP Tryz.prog 60 [E 1] (Z 1):=by
 have h1:=Of_ok 1 (by decide)
 have hm:=madeZ false 1 rfl;refine eW Tryz.call60 Tryz.func60 ?_;repeat' first|simp only[go_sem,seval,Z]|refine cP h1 ?_|refine cP hm ?_|refine sB ?_|(first|apply pX|apply bX)<;>intro hc|refine⟨oD,?_⟩|exact oD|fail
theorem Of0Z:EvP Tryz.prog 60 [E 0] (Z 0):=by
 have h1:=Of_ok 0 (by decide)
 have hm:=madeZ false 0 rfl;refine eW Tryz.call60 Tryz.func60 ?_;repeat' first|simp only[go_sem,seval,Z]|refine cP h1 ?_|refine cP hm ?_|refine sB ?_|(first|apply pX|apply bX)<;>intro hc|refine⟨oD,?_⟩|exact oD|fail
theorem NegZ {y:Int} (h:y.natAbs<LIM):EvP Tryz.prog 392 [Z y] (Z (-y)):=by
 have hv:=validZ h;have hm:=madeZ (!zs y) y.natAbs (zneg y);refine eW Tryz.call392 Tryz.func392 ?_;repeat' first|simp only[go_sem,seval,Z]|refine cP hv ?_|refine cP hm ?_|refine sB ?_|(first|apply pX|apply bX)<;>intro hc|refine⟨oD,?_⟩|exact oD|fail
theorem iMulL {x y:Int} (hx:x.natAbs<LIM) (hy:y.natAbs<LIM) (h:x.natAbs*y.natAbs<LIM):EvP Tryz.prog 251 [Z x,Z y] (.tup [Z (x*y),E 0]):=by
 have hb:=bothZ hx hy;have hm:=mulN h hx hy;have hk:=madeZ (zs x !=zs y) (x.natAbs*y.natAbs) (zmul x y);refine eW Tryz.call251 Tryz.func251 ?_;repeat' first|simp only[go_sem,seval,Z]|refine cP hb ?_|refine cP hm ?_|refine cP hk ?_|refine sB ?_|(first|apply pX|apply bX)<;>intro hc|refine⟨oD,?_⟩|exact oD|fail
theorem iMulZ {x y:Int} (hx:x.natAbs<W128) (hy:y.natAbs<W128):EvP Tryz.prog 251 [Z x,Z y] (.tup [Z (x*y),E 0]):=
 have hw:=w128
 iMulL (by omega) (by omega) (Nat.lt_of_lt_of_le (Nat.mul_lt_mul'' hx hy) w256)
theorem iAddL {x y:Int} (hlim:x.natAbs+y.natAbs<LIM):EvP Tryz.prog 253 [Z x,Z y] (.tup [Z (x+y),E 0]):=by
 have hb0:=bothZ (x:=x) (y:=y) (by omega) (by omega)
 by_cases hs:zs x=zs y
 ·have ha:=addN hlim;have hk:=madeZ (zs x) (x.natAbs+y.natAbs) (zadd1 hs);have hb: ∀ _:True,(zs x==zs y)=true:=fun _=>by rw[hs];simp
  clear hs hlim;refine eW Tryz.call253 Tryz.func253 ?_;repeat' first|simp only[go_sem,seval,Z,hb trivial]|refine cP hb0 ?_|refine cP ha ?_|refine cP hk ?_|refine sB ?_|(first|apply pX|apply bX)<;>intro hc|refine⟨oD,?_⟩|exact oD|fail
 have hb: ∀ _:True,(zs x==zs y)=false:=fun _=>by simpa using hs
 have hcm:=cmpNN (a:=x.natAbs) (b:=y.natAbs) (by omega) (by omega)
 by_cases hl:y.natAbs≤x.natAbs
 ·have hd:=subN hl (by omega)
  have hk:=madeZ (zs x) (x.natAbs-y.natAbs) (zadd2 hs hl);have hg: ∀ _:True,decide (cmpN x.natAbs y.natAbs<0)=false:=fun _=>decide_eq_false (fun h=>by rw[cmpN_lt]at h;omega)
  generalize cmpN x.natAbs y.natAbs=cm at*;clear hs hlim;refine eW Tryz.call253 Tryz.func253 ?_;repeat' first|simp only[go_sem,seval,Z,hb trivial,hg trivial]|refine cP hb0 ?_|refine cP hcm ?_|refine cP hd ?_|refine cP hk ?_|refine sB ?_|(first|apply pX|apply bX)<;>intro hc|refine⟨oD,?_⟩|exact oD|fail
 ·have hd:=subN (a:=y.natAbs) (b:=x.natAbs) (by omega) (by omega)
  have hk:=madeZ (zs y) (y.natAbs-x.natAbs) (zadd3 hs (by omega))
  have hg: ∀ _:True,decide (cmpN x.natAbs y.natAbs<0)=true:=fun _=>decide_eq_true (by rw[cmpN_lt];omega)
  generalize cmpN x.natAbs y.natAbs=cm at*;clear hs hlim;refine eW Tryz.call253 Tryz.func253 ?_;repeat' first|simp only[go_sem,seval,Z,hb trivial,hg trivial]|refine cP hb0 ?_|refine cP hcm ?_|refine cP hd ?_|refine cP hk ?_|refine sB ?_|(first|apply pX|apply bX)<;>intro hc|refine⟨oD,?_⟩|exact oD|fail
theorem iAddZ {x y:Int} (hx:x.natAbs<W128) (hy:y.natAbs<W128):EvP Tryz.prog 253 [Z x,Z y] (.tup [Z (x+y),E 0]):=
 iAddL (Nat.lt_of_lt_of_le (show _<W128*W128 by unfold W128 at*;omega) w256)
theorem iSubL {x y:Int} (hlim:x.natAbs+y.natAbs<LIM):EvP Tryz.prog 348 [Z x,Z y] (.tup [Z (x-y),E 0]):=by
 have hb:=bothZ (x:=x) (y:=y) (by omega) (by omega)
 have hn:=NegZ (y:=y) (by omega)
 have ha:=iAddL (x:=x) (y:= -y) (by omega)
 rw[←Int.sub_eq_add_neg]at ha;refine eW Tryz.call348 Tryz.func348 ?_;repeat' first|simp only[go_sem,seval,Z]|refine cP hb ?_|refine cP hn ?_|refine cP ha ?_|refine sB ?_|(first|apply pX|apply bX)<;>intro hc|refine⟨oD,?_⟩|exact oD|fail
theorem iSubZ {x y:Int} (hx:x.natAbs<W128) (hy:y.natAbs<W128):EvP Tryz.prog 348 [Z x,Z y] (.tup [Z (x-y),E 0]):=
 iSubL (Nat.lt_of_lt_of_le (show _<W128*W128 by unfold W128 at*;omega) w256)
theorem w64_128:18446744073709551616≤W128:=by decide
theorem w64_lim:18446744073709551616≤LIM:=by unfold LIM;decide+kernel
abbrev Z2 (x y:Int):PV:= .agg [.b (zs x), .s (zb x), .b (zs y), .s (zb y)]
theorem ext1_ok {q:Nat} {x0 x1:Int} (hq:q<18446744073709551616) (h0:x0.natAbs<18446744073709551616+1) (h1:x1.natAbs<18446744073709551616+1) (hp:(((q:Nat):Int)*x1).natAbs<W128):EvP Tryz.prog 410 [Z2 x0 x1, .pt (.agg [N q]) 0] (Z2 x1 (x0-(q:Nat)*x1)):=by
 have w1:=w64_128;have w2:=w64_lim;have hf:=FromZ (n:=q) (by omega)
 have hm:=iMulZ (x:=(q:Int)) (y:=x1) (by rw[Int.natAbs_natCast];omega) (by unfold W128;omega)
 have hs:=iSubZ (x:=x0) (y:=(q:Int)*x1) (by unfold W128;omega) hp
 generalize (q:Int)*x1=v at*;generalize x0-v=u at*;refine eW Tryz.call410 Tryz.func410 ?_;repeat' first|simp only[go_sem,seval,Z,zs_nat,zb_nat]|refine cP hf ?_|refine cP hm ?_|refine cP hs ?_|refine sB ?_|(first|apply pX|apply bX)<;>intro hc|refine⟨oD,?_⟩|exact oD|fail
theorem qmul_le {r0 r1 B:Nat} {x1:Int} (h0:0<r1) (h:x1.natAbs*r0≤B):((((r0/r1:Nat):Int))*x1).natAbs≤B:=by
 rw[Int.natAbs_mul,Int.natAbs_natCast];have h1:r0/r1≤r0:=Nat.div_le_self _ _;have:=Nat.mul_le_mul_left x1.natAbs h1;rw[Nat.mul_comm]at this;omega
theorem Extended_ok {a b:Nat} (ha:a<18446744073709551616) (hb:b<18446744073709551616) (h0:0<b): ∃X Y:Int,(Nat.gcd a b=1→X.natAbs<18446744073709551616∧X.natAbs%b=invN a b)∧EvP Tryz.prog 335 [N a,N b] (.tup [N (Nat.gcd a b),Z X,Z Y,E 0]):=by
 have w1:=w64_128;have w2:=w64_lim;obtain⟨x',y',hE⟩:=extF_end (a:=a) (b:=b) (f:=b+1) (by omega) (ExtE.start h0)
 obtain⟨res,hres⟩: ∃res,res=extF (b+1) a b 1 0 0 1:=⟨_,rfl⟩;rw[←hres]at hE;obtain⟨g,X0,Y0⟩:=res;simp only at hE;have hg:=hE.fin;have hgp:0<g:=by rw[hg];exact Nat.gcd_pos_of_pos_right _ h0
 have bx:=hE.bx0;have by':=hE.by0
 have hm1:b/g≤b:=Nat.div_le_self _ _;have hk1:a/g≤a:=Nat.div_le_self _ _;have v1:=natValid (bts a);have v2:=natValid (bts b);rw[vB (show a<LIM by omega)]at v1
 rw[vB (show b<LIM by omega)]at v2
 have e0:(bts b==([]:Bytes))=false:=nilF (by omega)
 have d1:=DivModN (a:=b) (b:=g) hb (by have:g≤b:=(by rw[hg];exact Nat.gcd_le_right _ h0);omega) hgp
 have d2:=DivModN (a:=a) (b:=g) ha (by have:g≤b:=(by rw[hg];exact Nat.gcd_le_right _ h0);omega) hgp
 have f1:=FromZ (n:=b/g) (by omega)
 have f2:=FromZ (n:=a/g) (by omega)
 have ad:=iAddZ (x:=X0) (y:=((b/g:Nat):Int)) (by unfold W128;omega) (by rw[Int.natAbs_natCast];unfold W128;omega)
 have sb:=iSubZ (x:=Y0) (y:=((a/g:Nat):Int)) (by unfold W128;omega) (by rw[Int.natAbs_natCast];unfold W128;omega)
 have o1:=Of1Z;have o0:=Of0Z;refine⟨if X0<0 then X0+((b/g:Nat):Int)else X0,if X0<0 then Y0-((a/g:Nat):Int)else Y0,?_,?_⟩
 ·intro h1;have g1:g=1:=by rw[hg];exact h1
  subst g1;obtain⟨k1,k3,k2⟩:=hE.inv h0 _ rfl;rw[Nat.div_one];exact⟨by omega,k2⟩
 ·rw[←hg];refine eW Tryz.call335 Tryz.func335 ?_;simp only[go_sem,seval,Z];repeat' first|simp only[go_sem,seval,e0,Z]|refine cP v1 ?_|refine cP v2 ?_|refine cP o1 ?_|refine cP o0 ?_|refine sB ?_|(first|apply pX|apply bX)<;>intro hc|refine⟨oD,?_⟩|exact oD|fail
  refine loop_run (α:=Nat×Nat×Nat×Int×Int×Int×Int) (fun s=>s.2.2.1) (fun s=>⟨[(0, .v (N a)),(1, .v (N b)),(5, .p 1001 0 0),(6, .p 1002 0 0),(8, .p 1017 0 0),(9, .p 1025 0 0),(10, .p 1026 0 0)],[(1001,⟨0,[.v (.b false), .v (.s [])],false,some 53⟩),(1002,⟨0,[.v (.b false), .v (.s [])],false,some 53⟩),(1017,⟨0,[.v (N s.2.1), .v (N s.2.2.1)],false,some 171⟩),(1025,⟨0,[.v (.b (zs s.2.2.2.1)), .v (.s (zb s.2.2.2.1)), .v (.b (zs s.2.2.2.2.1)), .v (.s (zb s.2.2.2.2.1))],false,some 417⟩),(1026,⟨0,[.v (.b (zs s.2.2.2.2.2.1)), .v (.s (zb s.2.2.2.2.2.1)), .v (.b (zs s.2.2.2.2.2.2)), .v (.s (zb s.2.2.2.2.2.2))],false,some 417⟩)],_⟩) (fun s=>s.2.2.1<s.1∧ExtE a b s.2.1 s.2.2.1 s.2.2.2.1 s.2.2.2.2.1 s.2.2.2.2.2.1 s.2.2.2.2.2.2∧s.2.1<18446744073709551616∧s.2.2.1<18446744073709551616∧extF s.1 s.2.1 s.2.2.1 s.2.2.2.1 s.2.2.2.2.1 s.2.2.2.2.2.1 s.2.2.2.2.2.2=(g,X0,Y0)) (b+1,a,b,1,0,0,1) (fun _=>Nat.le_refl _) ⟨by show b<b+1;omega,ExtE.start h0,ha,hb,hres.symm⟩ ?_ ?_
  ·exact lE
  ·rintro⟨f,r0,r1,x0,x1,y0,y1⟩ ⟨hf,hS,hr0,hr1,heq⟩ R hR;simp only at hf hS hr0 hr1 heq
   cases f with
   |zero=>omega
   |succ f=>
    unfold extF at heq
    by_cases hz:r1=0
    ·subst hz;rw[if_pos rfl]at heq;simp only[Prod.mk.injEq]at heq;obtain⟨rfl,rfl,rfl⟩:=heq
     by_cases hx:x0<0
     ·have hzs:zs x0=true:=by simp[zs,hx]
      simp only[Z,hzs,zs_nat,zb_nat]at ad f1 f2;simp only[Z,zs_nat,zb_nat]at sb;rw[if_pos hx,if_pos hx];clear hR hres hE hS;repeat' first|simp only[go_sem,seval,nilT,Z,hzs,zs_nat,zb_nat]|refine cP d1 ?_|refine cP d2 ?_|refine cP f1 ?_|refine cP f2 ?_|refine cP ad ?_|refine cP sb ?_|refine sB ?_|(first|apply pX|apply bX)<;>intro hc|refine⟨oD,?_⟩|exact oD|fail
     ·have hzs:zs x0=false:=by simp[zs,hx]
      rw[if_neg hx,if_neg hx];clear hR hres hE hS;repeat' first|simp only[go_sem,seval,nilT,Z,hzs]|refine sB ?_|(first|apply pX|apply bX)<;>intro hc|refine⟨oD,?_⟩|exact oD|fail
    ·rw[if_neg hz]at heq;have hpos:0<r1:=by omega
     have hst:=hS.step hpos;have hml:=Nat.mod_lt r0 hpos;have hq:r0/r1≤r0:=Nat.div_le_self _ _;have dv:=DivModN hr0 hr1 hpos;have b1:=hS.bx0;have b2:=hS.bx1;have b3:=hS.by0;have b4:=hS.by1;have b5:=hS.hx;have b6:=hS.hy;have c1:=ext1_ok (q:=r0/r1) (x0:=x0) (x1:=x1) (by omega) (by omega) (by omega) (by have:=qmul_le (r1:=r1) hpos (show x1.natAbs*r0≤b by omega);unfold W128;omega)
     have c2:=ext1_ok (q:=r0/r1) (x0:=y0) (x1:=y1) (by omega) (by omega) (by omega) (by have:=qmul_le (r1:=r1) hpos (show y1.natAbs*r0≤a by omega);unfold W128;omega)
     have en:=nilF hz;have hgo:=hR (f,r1,r0%r1,x1,x0-((r0/r1:Nat):Int)*x1,y1,y0-((r0/r1:Nat):Int)*y1) ⟨by show r0%r1<f;omega,hst,hr1,by show r0%r1< _;omega,heq⟩ hml
     clear hR heq hst hS b1 b2 b3 b4 b5 b6 hres hE;generalize x0-((r0/r1:Nat):Int)*x1=u at*;generalize y0-((r0/r1:Nat):Int)*y1=v at*;repeat' first|simp only[go_sem,seval,en,Z,Z2,viewN]|refine cP dv ?_|refine cV c1 ?_|refine cV c2 ?_|refine sB ?_|(first|apply pX|apply bX)<;>intro hc|refine⟨oD,?_⟩|exact oD|fail
     refine hgo _ ?_;exact lE
theorem Inverse_ok {a m:Nat} (ha:a<18446744073709551616) (hm:m<18446744073709551616) (h0:0<m) (hg:Nat.gcd a m=1):EvP Tryz.prog 215 [N a,N m] (.tup [N (invN a m),E 0]):=by
 have w1:=w64_128;have w2:=w64_lim;have hc:=fun nm=>check1 nm (bts a) (bts m)
 rw[chk1N ha hm h0]at hc;have hl:=Nat.mod_lt a h0;have hd:=reducedN ha hm h0;have hg':Nat.gcd (a%m) m=1:=by rw[←hg,←Nat.gcd_rec,Nat.gcd_comm]
 obtain⟨X,Y,h1,h3⟩:=Extended_ok (a:=a%m) (b:=m) (by omega) hm h0
 obtain⟨h4,h5⟩:=h1 hg';rw[hg']at h3;have hX:X.natAbs%m=invN a m:=by
  rw[h5];obtain⟨g1,g2⟩:=(unit_of_gcd h0 hg').inv;exact(invN_eq g1 (by rw[Nat.mod_mul_mod]at g2;exact g2)).symm
 have hr:EvP Tryz.prog 263 [.s (zb X),N m] (N (invN a m)):=by
  have:=reducedN h4 hm h0
  rwa[hX]at this
 clear h1 h4 h5 hX;refine eW Tryz.call215 Tryz.func215 ?_;repeat' first|simp only[go_sem,seval,Z,oneF,one_eq,bne_self_eq_false,beq_self_eq_true]|(refine CR_eff (hc _) (by simp) ?_)|refine cP hd ?_|refine cP h3 ?_|refine cP hr ?_|refine sB ?_|(first|apply pX|apply bX)<;>intro hc|refine⟨oD,?_⟩|exact oD|fail
end Go.Proofs.YtmledjfbgjnknaaGreatDoor
namespace Go.Dom
noncomputable def powI (m x:Nat) (z:Int):Nat:=powZ m x (decide (z<0)) z.natAbs
theorem pow_cancel {m x y:Nat} (h:x*y%m=1%m) (n k:Nat):x^(n+k)*y^k%m=x^n%m:=by
 rw[Nat.pow_add,Nat.mul_assoc,←Nat.mul_pow,Nat.mul_mod,Nat.pow_mod (x*y) k m,h,←Nat.pow_mod,Nat.one_pow,←Nat.mul_mod,Nat.mul_one]
theorem powI_nn (m x:Nat) (n:Nat):powI m x (n:Int)=x^n%m:=by
 unfold powI powZ;rw[decide_eq_false (by omega)];simp
theorem powI_neg {m x:Nat} (n:Nat):powI m x (-(n:Int))=invN x m^n%m:=by
 unfold powI powZ
 by_cases h:n=0
 ·subst h;simp
 ·rw[decide_eq_true (by omega)];simp
theorem powI_add {m x:Nat} (h:Unit' m x) (hm:0<m) (a b:Int):powI m x a*powI m x b%m=powI m x (a+b):=by
 obtain⟨h1,h2⟩:=h.inv;have h3:invN x m*x%m=1%m:=by rw[Nat.mul_comm];exact h2
 rcases Int.eq_nat_or_neg a with⟨n,rfl|rfl⟩<;>rcases Int.eq_nat_or_neg b with⟨k,rfl|rfl⟩
 ·rw[powI_nn,powI_nn,←Nat.mul_mod,←Nat.pow_add,←powI_nn];simp
 ·rw[powI_nn,powI_neg,←Nat.mul_mod];rcases Nat.le_total k n with hk|hk
  ·obtain⟨d,rfl⟩:=Nat.exists_eq_add_of_le hk;rw[Nat.add_comm k d,pow_cancel h2,←powI_nn];congr 1;omega
  ·obtain⟨d,rfl⟩:=Nat.exists_eq_add_of_le hk;rw[Nat.mul_comm,Nat.add_comm n d,pow_cancel h3,←powI_neg];congr 1;omega
 ·rw[powI_nn,powI_neg,←Nat.mul_mod];rcases Nat.le_total k n with hk|hk
  ·obtain⟨d,rfl⟩:=Nat.exists_eq_add_of_le hk;rw[Nat.add_comm k d,pow_cancel h3,←powI_neg];congr 1;omega
  ·obtain⟨d,rfl⟩:=Nat.exists_eq_add_of_le hk;rw[Nat.mul_comm,Nat.add_comm n d,pow_cancel h2,←powI_nn];congr 1;omega
 ·rw[powI_neg,powI_neg,←Nat.mul_mod,←Nat.pow_add,←powI_neg];congr 1;omega
theorem powI_pow {m x:Nat} (h:Unit' m x) (hm:0<m) (w c:Nat):powI m (x^w%m) (-(c:Int))=powI m x (-((c*w:Nat):Int)):=by
 rw[powI_neg,powI_neg,(h.pow hm w).2,pow_pow_mod,Nat.mul_comm c w]
theorem respond_law {m x:Nat} (h:Unit' m x) (hm:0<m) (a:Int) (w c:Nat):powI m (x^w%m) (-(c:Int))*powI m x (a+(c*w:Nat))%m=powI m x a:=by
 rw[powI_pow h hm,powI_add h hm];congr 1;omega
end Go.Dom
