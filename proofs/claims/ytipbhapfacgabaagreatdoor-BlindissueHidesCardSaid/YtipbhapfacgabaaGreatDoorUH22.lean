/- Part of the proof. -/
import Derived.Test.YtipbhapfacgabaaGreatDoorUH21
set_option linter.all false
set_option maxHeartbeats 8000000
set_option maxRecDepth 100000
namespace Go.Dom
variable {a b g r0 r1:Nat} {x0 x1 y0 y1:Int}
structure rX (a b r0 r1:Nat) (x0 x1 y0 y1:Int):Prop where
 e0:(a:Int)*x0+b*y0=r0
 e1:(a:Int)*x1+b*y1=r1
 g:Nat.gcd r0 r1=Nat.gcd a b
 hx:x1.natAbs*r0+x0.natAbs*r1<=b
 hy:y1.natAbs*r0+y0.natAbs*r1<=a
 bx0:x0.natAbs<=b
 bx1:x1.natAbs<=b
 by0:y0.natAbs<=a+1
 by1:y1.natAbs<=a+1
theorem rX.start (hb:0<b):rX a b a b 1 0 0 1:=
 ⟨by omega,by omega,rfl,by simp,by simp,by show 1<=b;omega,by simp,by simp,by simp⟩
theorem D0 {q B:Nat} (hq:q=r0/r1) (h:x1.natAbs*r0+x0.natAbs*r1<=B):(x0-q*x1).natAbs*r1+x1.natAbs*(r0%r1)<=B:=by
 have h1:(x0-q*x1).natAbs<=x0.natAbs+q*x1.natAbs:=by
  have:=Int.natAbs_sub_le x0 (q*x1)
  rwa[qx,Int.natAbs_natCast]at this
 have h2:=cK r1 h1;have h3:r1*q+r0%r1=r0:=by rw[hq];exact iY r0 r1
 have h4:x1.natAbs*r0=x1.natAbs*(r1*q)+x1.natAbs*(r0%r1):=by rw[<-lA,h3]
 have h5:(x0.natAbs+q*x1.natAbs)*r1=x0.natAbs*r1+x1.natAbs*(r1*q):=by
  rw[cO,bw q,cr,bw q]
 omega
theorem rX.step (h:rX a b r0 r1 x0 x1 y0 y1) (h1:0<r1):rX a b r1 (r0%r1) x1 (x0-(r0/r1:Nat)*x1) y1 (y0-(r0/r1:Nat)*y1):=by
 have hx:=D0 (q:=r0/r1) rfl h.hx;have hy:=D0 (q:=r0/r1) rfl h.hy;have le: ∀{n B:Nat} {m:Nat},n*r1+m<=B->n<=B:=fun{n B m} g=>by
  have:=Nat.le_mul_of_pos_right n h1;omega
 refine⟨h.e1,?_,?_,hx,hy,h.bx1,le hx,h.by1,?_⟩
 ·have e0:=h.e0;have e1:=h.e1;have hd:=iY r0 r1;generalize r0/r1=q at*;generalize r0%r1=t at*;have:(r0:Int)=r1*q+t:=by rw[<-hd];simp
  rw[qB,qB];have e3:(a:Int)*(q*x1)=q*(a*x1):=by rw[<-pg,tG (a:Int),pg]
  have e4:(b:Int)*(q*y1)=q*(b*y1):=by rw[<-pg,tG (b:Int),pg]
  have e5:(q:Int)*(a*x1)+q*(b*y1)=r1*q:=by rw[<-nu,e1,tG]
  omega
 ·rw[<-h.g,lh r0 r1,o5 r1 r0,lh]
 ·have:=le hy;omega
theorem Np {X Y:Int} (h0:0<=X) (h:(a:Int)*X+b*Y=1):a*(X.natAbs%b)%b=1%b:=by
 obtain⟨n,rfl⟩:=Int.eq_ofNat_of_zero_le h0;rw[Int.natAbs_natCast,lL];have e:((a*n:Nat):Int)%b=(1:Int)%b:=by
  have:((a*n:Nat):Int)=1+b*(-Y):=by simp only[Int.natCast_mul,qw];omega
  rw[this,C4]
 exact_mod_cast e
theorem Nq {a m i j:Nat} (hi:i<m) (hj:j<m) (h1:a*i%m=1%m) (h2:a*j%m=1%m):i=j:=by
 have e1:i*(a*j)%m=i%m:=by rw[<-lL,h2,lL,eH]
 have e2:i*(a*j)%m=j%m:=by rw[<-cr,bw i a,<-lj,h1,lj,jP]
 rw[bM hi]at e1;rw[bM hj]at e2;omega
noncomputable def iQ (a m:Nat):Nat:= @dite _ (∃i,i<m/\a*i%m=1%m) (Classical.propDecidable _) (fun h=>Classical.choose h) (fun _=>0)
theorem iR {a m i:Nat} (hi:i<m) (h:a*i%m=1%m):iQ a m=i:=by
 have hx: ∃i,i<m/\a*i%m=1%m:=⟨i,hi,h⟩;unfold iQ;rw[dif_pos hx];obtain⟨g1,g2⟩:=Classical.choose_spec hx;exact Nq g1 hi g2 h
theorem rX.fin (h:rX a b g 0 x0 x1 y0 y1):g=Nat.gcd a b:=by
 have:=h.g;rwa[Di]at this
theorem rX.inv (h:rX a b 1 0 x0 x1 y0 y1) (hb:0<b): ∀X:Int,X=(if x0<0 then x0+b else x0)->0<=X/\X<=b/\X.natAbs%b=iQ a b:=by
 intro X hX;have b0:=h.bx0;have h0:0<=X:=by rw[hX];split<;>omega
 refine⟨h0,by rw[hX];split<;>omega,(iR (aL _ hb) ?_).symm⟩
 have e0:=h.e0
 by_cases hx:x0<0
 ·rw[ah hx]at hX;refine Np (Y:=y0-a) h0 ?_;rw[hX,nu,qB,tG (b:Int) a];omega
 ·rw[af hx]at hX;exact Np (Y:=y0) h0 (by rw[hX];omega)
def Eo:Nat->Nat->Nat->Int->Int->Int->Int->Nat×Int×Int
 |0,r0,_,x0,_,y0,_=>(r0,x0,y0)
 |f+1,r0,r1,x0,x1,y0,y1=>if r1=0 then(r0,x0,y0)else Eo f r1 (r0%r1) x1 (x0-(r0/r1:Nat)*x1) y1 (y0-(r0/r1:Nat)*y1)
theorem Ep: ∀{f r0 r1:Nat} {x0 x1 y0 y1:Int},r1<f->rX a b r0 r1 x0 x1 y0 y1-> ∃x' y',rX a b (Eo f r0 r1 x0 x1 y0 y1).1 0 (Eo f r0 r1 x0 x1 y0 y1).2.1 x' (Eo f r0 r1 x0 x1 y0 y1).2.2 y'
 |0,_,_,_,_,_,_,h,_=>aJ h (tB _)
 |f+1,r0,r1,x0,x1,y0,y1,h,hE=>by
  unfold Eo;split
  ·rename_i h0;subst h0;exact⟨x1,y1,hE⟩
  ·rename_i h0;exact Ep (by have:=aL r0 (show 0<r1 by omega);omega) (hE.step (by omega))
structure WJ (a b g:Nat) (x y:Int):Prop where
 z:b=0->x=1/\y=0
 bx:0<b->x.natAbs<=b
 by':0<b->y.natAbs<=max a 1
 e:(a:Int)*x+b*y=g
 g:g=Nat.gcd a b
theorem WJ.base (a:Nat):WJ a 0 a 1 0:=⟨fun _=>⟨rfl,rfl⟩,fun h=>by omega,fun h=>by omega,by simp,by simp⟩
theorem WJ.step {x y:Int} (hb:0<b) (h:WJ b (a%b) g x y):WJ a b g y (x-(a/b:Nat)*y):=by
 have hd:=iY a b;have hg:g=Nat.gcd a b:=by rw[h.g,lh a b,o5 b a,lh]
 have he:=h.e;have e1:(a:Int)=b*(a/b:Nat)+(a%b:Nat):=by
  have:((b*(a/b)+a%b:Nat):Int)=(a:Int):=by rw[hd]
  rw[<-this];simp
 rcases kQ (a%b)with h0|h0
 ·obtain⟨rfl,rfl⟩:=h.z h0;refine⟨by omega,by simp,fun _=>by simp;omega,?_,hg⟩
  simp only[Int.mul_zero,Int.sub_zero,Int.mul_one,Int.zero_add,Int.add_zero]at he⊢;exact he
 ·have bx:=h.bx h0;have by1:y.natAbs<=b:=by have:=h.by' h0;omega
  refine⟨by omega,fun _=>by1,fun _=> ?_,?_,hg⟩
  ·have h1:(x-(a/b:Nat)*y).natAbs<=x.natAbs+a/b*y.natAbs:=by
    have:=Int.natAbs_sub_le x ((a/b:Nat)*y)
    rwa[qx,Int.natAbs_natCast]at this
   have h2:=lu (a/b) by1;have h3:a/b*b=b*(a/b):=bw _ _;omega
  ·generalize a/b=q at*;generalize a%b=t at*;rw[qB,e1,Int.add_mul];have e3:(b:Int)*q*y=b*(q*y):=pg ..;omega
end Go.Dom
namespace Go.Proofs.Tryz
open Go Go.Dom
variable {x y:Int}
def zs (x:Int):Bool:=decide (x<0)
def zb (x:Int):Bytes:=aZ x.natAbs
abbrev Z (x:Int):PV:= .agg [.b (zs x), .s (zb x)]
def gN:Nat:=340282366920938463463374607431768211456
theorem Ln:gN<=dP:=by unfold dP gN;decide+kernel
theorem Sc:gN*gN<=dP:=by unfold dP gN;decide+kernel
theorem vB {n:Nat} (h:n<dP):aa (aZ n)=true:=kx h
theorem DK (n:Nat):zb (n:Int)=aZ n:=rfl
theorem DN (n:Nat):zs (n:Int)=false:=by simp[zs]
theorem uK (x:Int):num (zb x)=x.natAbs:=aP _
theorem Wj (x:Int):(zb x==([]:Bytes))=decide (x=0):=by
 unfold zb;rw[cI];simp[gR]
theorem Y3 (h:x.natAbs<dP):(aa (zb x)&& !(zs x&&zb x==[]))=true:=by
 rw[Wj,show aa (zb x)=true from vB h]
 simp[zs];omega
theorem zmk (b:Bool) (n:Nat):(.agg [.b (b&& !(aZ n==[])),N n]:PV)=Z (if b then-(n:Int)else n):=by
 by_cases h:n=0
 ·subst h;cases b<;>rfl
 ·have e:(aZ n==([]:Bytes))=false:=yQ h;cases b
  ·simp[Z,zs,zb]
  ·have:decide (-(n:Int)<0)=true:=aS oO;simp[Z,zs,zb,e,h];omega
theorem aac (x y:Int):(if(zs x !=zs y)then-((x.natAbs*y.natAbs:Nat):Int)else((x.natAbs*y.natAbs:Nat):Int))=x*y:=by
 rw[Int.natCast_mul];unfold zs
 by_cases h1:x<0<;>by_cases h2:y<0<;>simp only[h1,h2,decide_true,decide_false,qI,bQ,ak]
 ·have e1:(x.natAbs:Int)= -x:=oO;have e2:(y.natAbs:Int)= -y:=oO;rw[e1,e2,Int.neg_mul_neg]
 ·have e1:(x.natAbs:Int)= -x:=oO;have e2:(y.natAbs:Int)=y:=oO;simp only[Bool.bne_false,aA];rw[e1,e2,tR,Int.neg_neg]
 ·have e1:(x.natAbs:Int)=x:=oO;have e2:(y.natAbs:Int)= -y:=oO;simp only[Bool.false_bne,aA];rw[e1,e2,qw,Int.neg_neg]
 ·have e1:(x.natAbs:Int)=x:=oO;have e2:(y.natAbs:Int)=y:=oO;rw[e1,e2]
theorem YW (h:zs x=zs y):(if zs x then-((x.natAbs+y.natAbs:Nat):Int)else((x.natAbs+y.natAbs:Nat):Int))=x+y:=by
 unfold zs at*
 by_cases h1:x<0<;>by_cases h2:y<0<;>simp[h1,h2]at h⊢ <;>omega
theorem Tf (h:zs x≠zs y) (hl:y.natAbs<=x.natAbs):(if zs x then-((x.natAbs-y.natAbs:Nat):Int)else((x.natAbs-y.natAbs:Nat):Int))=x+y:=by
 unfold zs at*
 by_cases h1:x<0<;>by_cases h2:y<0<;>simp[h1,h2]at h⊢ <;>omega
theorem YX (h:zs x≠zs y) (hl:x.natAbs<=y.natAbs):(if zs y then-((y.natAbs-x.natAbs:Nat):Int)else((y.natAbs-x.natAbs:Nat):Int))=x+y:=by
 rw[Int.add_comm];exact Tf (kA h) hl
theorem aad (y:Int):(if !zs y then-(y.natAbs:Int)else(y.natAbs:Int))= -y:=by
 unfold zs
 by_cases h:y<0<;>simp[h]<;>omega
theorem mP {a b:Nat}:(0<=bK a b)↔b<=a:=by unfold bK;split<;>(try split)<;>omega
end Go.Proofs.Tryz
namespace Go.Proofs.Tryz
open Go Go.Dom
variable {a:Bytes} {b x y:Nat}
theorem HM {n k:Nat} (h1:2^k<=n) (h2:n<2^(k+1)):cH n=k+1:=by
 have hp:0<2^k:=il oC;unfold cH;rw[af oO,(Nat.log2_eq_iff oO).2 ⟨h1,h2⟩]
theorem si (n:Nat):n<2^cH n:=by
 unfold cH;split
 ·rename_i h;rw[h];decide
 ·exact tT
theorem sh {n:Nat} (h:n≠0):2^(cH n-1)<=n/\0<cH n:=by
 unfold cH;rw[af h];exact⟨Nat.log2_self_le h,oO⟩
theorem JE {n:Nat} (h:n≠0):cH n=cH (n/2)+1:=by
 obtain⟨h1,h2⟩:=sh h;have h3:=si n;obtain⟨k,hk⟩: ∃k,cH n=k+1:=⟨cH n-1,oO⟩;rw[hk]at h1 h3⊢;simp only[o6]at h1
 cases k with
 |zero=>
  have:n/2=0:=by simp at h3;omega
  rw[this];rfl
 |succ k=>
  rw[Nat.pow_succ]at h1 h3;rw[HM (n:=n/2) (k:=k) oO oO]
theorem JD {c:UInt8} (r:Bytes) (h:c≠0):cH (num (c::r))=8*r.length+cH c.toNat:=by
 have hc:c.toNat≠0:=fun e=>h (jN.1 e)
 obtain⟨h1,h2⟩:=sh hc;have h3:=si c.toNat;have e256:256^r.length=2^(8*r.length):=by rw[show 256=2^8 from rfl,<-gX]
 have hn:num (c::r)=c.toNat*256^r.length+num r:=rfl;have hr:=cu r;have a1:2^(8*r.length+cH c.toNat-1)=2^(cH c.toNat-1)*256^r.length:=by rw[e256,<-cF];congr 1;omega
 have a2:2^(8*r.length+cH c.toNat-1+1)=2^cH c.toNat*256^r.length:=by rw[e256,<-cF];congr 1;omega
 have b1:=cK (256^r.length) h1;have b2:=cK (256^r.length) (show c.toNat+1<=2^cH c.toNat from h3)
 rw[cO]at b2;rw[HM (k:=8*r.length+cH c.toNat-1) oO oO];omega
theorem S9 (x:Nat):(x:Int).tdiv 2=((x/2:Nat):Int):=rfl
theorem zp (h:Canon a) (la:a.length<1048576):aF 209 [.s a] (E (cH (num a))):=by
 cases a with
 |nil=>
  refine eW call209 func209 ?_;repeat' first|simp only[go_sem,seval,nn]|refine oE ?_|apply xX<;>intro hc
  rfl
 |cons c r=>
  have hc0:c≠0:=by rcases h with e|e;cases e;exact e
  have hb:=JD r hc0;obtain⟨B,hB⟩: ∃B,B=cH (num (c::r)):=⟨_,rfl⟩;rw[<-hB]at hb⊢;have hcl:=c.toNat_lt;have hl:r.length<1048576:=by simp at la;omega
  have hb8:cH c.toNat<=8:=by
   obtain⟨g1,g2⟩:=sh (n:=c.toNat) (fun e=>hc0 (jN.1 e))
   have:=(qu (by decide:1<2)).1 (show 2^(cH c.toNat-1)<2^8 by omega)
   omega
  refine eW call209 func209 ?_;refine fq @cn ?_;refine aq (α:=Nat) (fun x=>x) (fun x=>⟨[(3,E' (B-cH x)),(4,E' x)],[],_⟩) (fun x=>x<256/\cH x<=B) c.toNat (fun _=>aB _) ⟨hcl,oO⟩ ?_ ?_
  ·(refine AS.Le.of (by first|decide|omega) ?_ ?_<;>simp[dG,dF,aO,hget,AV.bd,AV.bd.bdL,u8,ar,au,az])
   all_goals omega
  ·rintro x ⟨hx,hxb⟩ R hR
   by_cases h0:x=0
   ·subst h0;repeat' first|simp only[go_sem,seval]|refine oE ?_|apply xX<;>intro hc
    rfl
   ·have hh:=JE h0;have hw: ∀ _:True,IntKind.i64.wrap (((B-cH x:Nat):Int)+1)=((B-cH (x/2):Nat):Int):=fun _=>by rw[IntWalk.i64_in _ oO];omega
    refine eJ (aN @S9 (hw oT)) ?_;refine hR (x/2) ⟨oO,oO⟩ oO _ ?_;exact lE
theorem IQ (a:Bytes) (i:Nat) (la:a.length<1048576) (hi:i<1099511627776):aF 210 [.s a,E i] (.b ((num a).testBit i)):=by
 have hd:=rI a (i/8) oO;have e0:(i:Int).tdiv 8=((i/8:Nat):Int):=rfl;have e1:(i:Int).tmod 8=((i%8:Nat):Int):=rfl;have key:(num a).testBit i=decide (num a/256^(i/8)%256/2^(i%8)%2=1):=by
  rw[kN];congr 1;have e2:256^(i/8)=2^(8*(i/8)):=by rw[show 256=2^8 from rfl,<-gX]
  have e3:2^i=256^(i/8)*2^(i%8):=by rw[e2,<-cF];congr 1;omega
  rw[e3,<-fj];generalize num a/256^(i/8)=z;have h8:i%8<8:=aL _ oC;generalize i%8=j at h8;have:2^j*2^(8-j)=256:=by rw[<-cF,show j+(8-j)=8 by omega]
  have e5:z%256/2^j=z/2^j%2^(8-j):=by rw[<-this,qD]
  rw[e5];have e6:2^(8-j)=2*2^(7-j):=by rw[<-xj];congr 1;omega
  rw[e6,Nat.mod_mul_right_mod]
 rw[key];clear key;obtain⟨d,hdd⟩: ∃d,d=num a/256^(i/8)%256:=⟨_,rfl⟩;rw[<-hdd]at hd⊢;have hdl:d<256:=by rw[hdd];exact aL _ oC
 obtain⟨e,he⟩: ∃e,e=i%8:=⟨_,rfl⟩;rw[<-he]at e1⊢;clear hdd;refine eW call210 func210 ?_;refine Hx (aN @e0 @e1) @hd ?_;refine aq (α:=Nat) (fun j=>e-j) (fun j=>⟨[(1,E' i),(5,E' (d/2^j)),(6,E' j)],[],_⟩) (fun j=>j<=e) 0 (fun _=>aB _) (aT _) ?_ ?_
 ·(refine AS.Le.of (by first|decide|omega) ?_ ?_<;>simp[dG,dF,aO,hget,AV.bd,AV.bd.bdL,u8,ar,au,az])
  all_goals simp
 ·intro j hj R hR;have hle:d/2^j<=d:=fF _ _
  by_cases hlt:j<e
  ·have hw: ∀ _:True,IntKind.i64.wrap ((d/2^j/2:Nat):Int)=((d/2^(j+1):Nat):Int):=fun _=>by
    rw[Nat.pow_succ,<-fj];generalize d/2^j=z at hle⊢;rw[IntWalk.i64_in _ oO]
   refine eJ (aN @e1 (aN @S9 (hw oT))) ?_;refine hR (j+1) oO oO _ ?_;exact lE
  ·obtain rfl:j=e:=oO;have e3:((d/2^j:Nat):Int).tmod 2=((d/2^j%2:Nat):Int):=rfl;repeat' first|simp only[go_sem,seval,e1,e3]|refine oE ?_|apply xX<;>intro hc
   congr 1;rw[cI];simp only[dZ,bc];omega
theorem Ob (hx:(aZ x).length<1099511627776) (hy:(aZ y).length<1099511627776):aF 211 [N x,N y] (N (x+y)):=by
 have:=Oc (aZ x) (aZ y) hx hy
 rwa[aP,aP]at this
theorem RH (hx:(aZ x).length<1099511627776) (hy:(aZ y).length<1099511627776) (h:y<=x):aF 115 [N x,N y] (N (x-y)):=by
 have:=uP (aZ x) (aZ y) hx hy (by rw[aP,aP];exact h)
 rwa[aP,aP]at this
theorem IU (hx:(aZ x).length<1099511627776) (hy:(aZ y).length<1099511627776):aF 113 [N x,N y] (E (bK x y)):=by
 have:=nX (gF x) (gF y) oO oO
 rwa[aP,aP]at this
theorem IA:(.s [1]:PV)=N 1:=rfl
theorem Qa (n:Nat):be n 0=List.replicate n 0:=by
 induction n with
 |zero=>rfl
 |succ n ih=>rw[be,ih,Nat.zero_div,List.replicate_succ];rfl
theorem sN {b:Bytes} (ha:Canon a) (hb:Canon b) (h0:0<num b) (la:a.length<1048576) (lb:b.length<1048576):aF 114 [.s a, .s b] (.tup [N (num a/num b),N (num a%num b)]):=by
 by_cases h8:a.length<=8/\b.length<=8
 ·have hu1:=sO a h8.1;have hu2:=sO b h8.2;have na:=cU h8.1;have nb:=cU h8.2;have hq:num a/num b<(2^64):=dD (fF _ _) na;have hr:num a%num b<(2^64):=dD (tI _ _) na;refine eW call114 func114 ?_;repeat' first|simp only[go_sem,seval,uw,bM hq]|refine cP hu1 ?_|refine cP hu2 ?_|refine cP (oN _ hq) ?_|refine cP (oN _ hr) ?_|refine oE ?_|apply xX<;>intro hc
 have hbits:=zp ha la;obtain⟨n,hn⟩: ∃n,n=a.length:=⟨_,rfl⟩;have hone:=fun i hi=>IQ a i la hi
 have hAn:num a<256^n:=by rw[hn];exact cu a
 obtain⟨A,hA⟩: ∃A,A=num a:=⟨_,rfl⟩;obtain⟨B,hB⟩: ∃B,B=num b:=⟨_,rfl⟩;have hbB:aZ B=b:=by rw[hB];exact HO hb
 have hBl:(aZ B).length<1048576:=by rw[hbB];exact lb
 have hlen: ∀{x:Nat},x<2*B->(aZ x).length<1099511627776:=by
  intro x hx;have h1:B<256^b.length:=by rw[hB];exact cu b
  have h2:x<256^(b.length+1):=by rw[Nat.pow_succ];omega
  have:=mN.2 h2;omega
 have hbl:cH A<8388608:=by
  by_cases hz:A=0
  ·rw[hz];decide
  ·obtain⟨g1,g2⟩:=sh hz;have g3:2^(cH A-1)<2^(8*n):=dD g1 (by rw[gX];rw[hA];exact hAn)
   have:=(qu (by decide:1<2)).1 g3
   omega
 rw[<-hA]at hbits hone hAn⊢;rw[<-hB]at h0⊢;have eb:PV.s b=N B:=by show PV.s b=PV.s (aZ B);rw[hbB]
 have hb2:A/2^cH A=0:=iO (si A);rcases(show 8<a.length\/(a.length<=8/\8<b.length) by omega)with g|g
 all_goals
  refine eW call114 func114 ?_;simp only[go_sem,seval,<-hn];repeat' first|simp only[go_sem,seval,<-hn,nA]|refine cP hbits ?_|refine oE ?_|apply xX<;>intro hc
  refine aq (α:=Nat) (fun k=>k) (fun k=>⟨[(0, .v (.s a)),(1, .v (.s b)),(8, .rs 1012 0 0 n 1),(9, .v (N (A/2^k%B))),(10, .v (.i .i64 ((k:Int)-1)))],[(1012,⟨0,aH (be n (A/2^k/B*2^k)),false,none⟩)],_⟩) (fun k=>k<=cH A) (cH A) (fun _=>aB _) (aB _) ?_ ?_
  ·(refine AS.Le.of (by first|decide|omega) ?_ ?_<;>simp[dG,dF,aO,hget,AV.bd,AV.bd.bdL,u8,ar,au,az])
   all_goals simp[hb2,Qa]
   all_goals rfl
  ·intro k hk R hR;have hbe: ∀q,(be n q).length=n:=fun q=>cA _ _
   cases k with
   |zero=>
    have:=pY (be n (A/1/B)) (by rw[cA];omega)
    repeat' first|simp only[go_sem,seval,hbe]|(refine iD this rfl rfl (hbe _).symm ?_)|refine oE ?_|apply xX<;>intro hc
    rw[jO,jK (dD (fF _ _) hAn)]
   |succ i=>
    have hz:=EG A i;have ht:A/2^i%2<2:=aL _ oC;obtain⟨s1,s2⟩:=MC (z:=A/2^(i+1)) (t:=A/2^i%2) (B:=B) h0 ht;rw[<-hz]at s1 s2;have hr1:A/2^(i+1)%B<B:=aL _ h0;have hbit:=hone i oO;rw[kN]at hbit;have hQn:A/2^i/B*2^i<=A:=fV (cK _ (fF _ _)) (tV _ _);obtain⟨Q,hQ⟩: ∃Q,Q=A/2^(i+1)/B:=⟨_,rfl⟩;obtain⟨r,hr⟩: ∃r,r=A/2^(i+1)%B:=⟨_,rfl⟩;obtain⟨t,htt⟩: ∃t,t=A/2^i%2:=⟨_,rfl⟩;rw[<-hQ,<-hr,<-htt]at s1;rw[<-hr,<-htt]at s2;rw[<-hr]at hr1;rw[<-htt]at ht hbit;rw[<-hQ,<-hr];have hQ2:Q*2^(i+1)=2*Q*2^i:=by rw[Nat.pow_succ,bw (2^i),<-cr,bw Q]
    have p1:=Ob (x:=r) (y:=r) (hlen oO) (hlen oO);have p2:=Ob (x:=r+r) (y:=1) (hlen oO) oC;have hw0: ∀ _:True,((i+1:Nat):Int)-1=(i:Int):=fun _=>oO
    have hge0: ∀ _:True,decide ((i:Int)>=0)=true:=fun _=>by simp
    have hrt:r+r+t=2*r+t:=oO
    by_cases hge:B<=r+r+t
    ·rw[ah oO]at s1 s2;have m1:=RH (x:=r+r+t) (y:=B) (hlen oO) oO hge;have o1:=IU (x:=r+r+t) (y:=B) (hlen oO) oO;obtain⟨cm,hcm⟩: ∃cm,cm=bK (r+r+t) B:=⟨_,rfl⟩;have hcg: ∀ _:True,decide (cm>=0)=true:=fun _=>by rw[hcm];unfold bK;rw[af oO];split<;>rfl
     rw[<-hcm]at o1;rw[<-eb]at m1 o1;have s2':A/2^i%B=r+r+t-B:=by rw[s2];omega
     have s1':A/2^i/B*2^i=Q*2^(i+1)+2^(i%8)*256^(i/8):=by rw[s1,cO,Me,hQ2,jP]
     have hbf:=Mf (Q:=Q) (i:=i);have hj:i/8<n:=by
      have h1:256^(i/8)<=A:=by
       rw[s1']at hQn;have:=Nat.le_mul_of_pos_left (256^(i/8)) (il (n:=i%8) (show 0<2 by decide))
       omega
      exact(qu (by decide:1<256)).1 (dD h1 hAn)
     have hadd:=Ui hj hbf;rw[<-s1']at hadd;have hq1:(i:Int).tdiv 8=((i/8:Nat):Int):=rfl;have hq2:(i:Int).tmod 8=((i%8:Nat):Int):=rfl;have hix: ∀ _:True,((n:Int)-1-((i/8:Nat):Int)).toNat=n-1-i/8:=fun _=>oO
     have hdig:=uJ (be n (Q*2^(i+1))) (i:=i/8) (by rw[cA];exact hj)
     rw[cA,yS]at hdig;have hdig2:Q*2^(i+1)%256^n/256^(i/8)%256=Q*2^(i+1)/256^(i/8)%256:=by
      have this:Q*2^(i+1)<=A/2^i/B*2^i:=by rw[s1'];exact Nat.le_add_right _ _
      rw[bM (dD (fV this hQn) hAn)]
     rw[hdig2]at hdig;obtain⟨L,hL⟩: ∃L,L=be n (Q*2^(i+1)):=⟨_,rfl⟩;have hLl:L.length=n:=by rw[hL];exact cA _ _
     obtain⟨y,hy⟩: ∃y,y=Q*2^(i+1)/256^(i/8)%256:=⟨_,rfl⟩;rw[<-hL,<-hy]at hadd hdig;rw[<-hy]at hbf;rw[<-hL];have hrd: ∀ _:True,(aH L).getD (n-1-i/8) .u= .v (.i .u8 (y:Int)):=fun _=>by
      have:n-1-i/8<L.length:=oO;rw[<-hdig];simp[aH,bR,this,u8]
     have he7:i%8<8:=aL _ oC;clear hQ hr htt hz hQ2 hdig2 hL hy;rcases(show t=0\/t=1 by omega)with h0|h1
     ·subst h0;have hbit':aF 210 [.s a,E i] (.b false):=hbit;refine rT (aN (hw0 oT) (aN (hge0 oT) (hcg oT))) @p1 @hbit' @o1 @m1 ?_;refine aq (α:=Nat) (fun j=>i%8-j) (fun j=>⟨[(0, .v (.s a)),(1, .v (.s b)),(8, .rs 1012 0 0 n 1),(9, .v (N (r+r-B))),(10, .v (.i .i64 (i:Int))),(11, .v (.i .u8 ((2^j:Nat):Int))),(12, .v (.i .i64 (j:Int)))],[(1012,⟨0,aH L,false,none⟩)],_⟩) (fun j=>j<=i%8) 0 (fun _=>aB _) (aT _) ?_ ?_
      ·exact lE
      ·intro j hj R2 hR2
       by_cases hlt:j<i%8
       ·have hp7:2^(j+1)<=2^7:=cW oC oO;have hwj: ∀ _:True,IntKind.u8.wrap (((2^j:Nat):Int)*2)=((2^(j+1):Nat):Int):=fun _=>by
         rw[Wi,Nat.pow_succ,Int.natCast_mul];rw[Nat.pow_succ]at hp7;omega
        refine eJ (aN @hq2 (hwj oT)) ?_;refine hR2 (j+1) oO oO _ ?_;exact lE
       ·obtain rfl:j=i%8:=oO;repeat' first|simp only[go_sem,seval,<-hn,hq1,hq2,hLl,hix oT,hrd oT]|refine oE ?_|apply xX<;>intro hc
        refine hR i oO oO _ ?_;rw[s2',sj (c:=UInt8.ofNat (y+2^(i%8))) oO (by rw[<-Int.natCast_add,kK]),hadd]
        exact lE
     ·subst h1;have hbit':aF 210 [.s a,E i] (.b true):=hbit;refine Lr (aN (hw0 oT) (aN (hge0 oT) (aN (hcg oT) @IA))) @p1 @hbit' @p2 @o1 @m1 oT oT ?_;refine aq (α:=Nat) (fun j=>i%8-j) (fun j=>⟨[(0, .v (.s a)),(1, .v (.s b)),(8, .rs 1012 0 0 n 1),(9, .v (N (r+r+1-B))),(10, .v (.i .i64 (i:Int))),(11, .v (.i .u8 ((2^j:Nat):Int))),(12, .v (.i .i64 (j:Int)))],[(1012,⟨0,aH L,false,none⟩)],_⟩) (fun j=>j<=i%8) 0 (fun _=>aB _) (aT _) ?_ ?_
      ·exact lE
      ·intro j hj R2 hR2
       by_cases hlt:j<i%8
       ·have hp7:2^(j+1)<=2^7:=cW oC oO;have hwj: ∀ _:True,IntKind.u8.wrap (((2^j:Nat):Int)*2)=((2^(j+1):Nat):Int):=fun _=>by
         rw[Wi,Nat.pow_succ,Int.natCast_mul];rw[Nat.pow_succ]at hp7;omega
        refine eJ (aN @hq2 (hwj oT)) ?_;refine hR2 (j+1) oO oO _ ?_;exact lE
       ·obtain rfl:j=i%8:=oO;repeat' first|simp only[go_sem,seval,<-hn,hq1,hq2,hLl,hix oT,hrd oT]|refine oE ?_|apply xX<;>intro hc
        refine hR i oO oO _ ?_;rw[s2',sj (c:=UInt8.ofNat (y+2^(i%8))) oO (by rw[<-Int.natCast_add,kK]),hadd]
        exact lE
    ·rw[af oO]at s1 s2;have o1:=IU (x:=r+r+t) (y:=B) (hlen oO) oO;have hcm:bK (r+r+t) B= -1:=by unfold bK;rw[ah oO]
     rw[hcm,<-eb]at o1;have s2':A/2^i%B=r+r+t:=by rw[s2];omega
     have s1':A/2^i/B*2^i=Q*2^(i+1):=by rw[s1,hQ2];rfl
     clear hQ hr htt hz hQ2;have hR':=hR i oO oO;rw[s1',s2']at hR';rcases(show t=0\/t=1 by omega)with h0|h1
     ·subst h0;have hbit':aF 210 [.s a,E i] (.b false):=hbit;refine zT (aN (hw0 oT) (hge0 oT)) @p1 @hbit' @o1 oT ?_;refine hR' _ ?_;exact lE
     ·subst h1;have hbit':aF 210 [.s a,E i] (.b true):=hbit;refine zT (aN (hw0 oT) (aN (hge0 oT) @IA)) @p1 @hbit' @p2 @o1 ?_;refine hR' _ ?_;exact lE
theorem RF (a:Bytes):aF 76 [.s a] (.tup [.s (if a.length<=128 then a else[]),E (if a.length<=128 then 0 else 5)]):=by
 refine eW call76 func76 ?_;repeat' first|simp only[go_sem,seval]|refine oE ?_|apply xX<;>intro hc
 ·have h: ¬a.length<=128:=oO;simp[h]
 ·have h:a.length<=128:=oO;simp[h]
theorem IM (a b:Bytes):aF 25 [.s a, .s b] (.tup [.s (nC a b).1,E (nC a b).2]):=by
 by_cases hv:aa a=true/\aa b=true
 case neg=>
  refine eW call25 func25 ?_;repeat' first|simp only[go_sem,seval]|refine cP (aQ _) ?_|refine oE ?_|apply xX<;>intro hc
  all_goals simp_all[nC]
 have la:=eu hv.1;have lb:=eu hv.2;have hp:=KQ a b oO oO;refine eW call25 func25 ?_;repeat' first|simp only[go_sem,seval]|refine cP (aQ _) ?_|refine cP hp ?_|refine cP (RF _) ?_|refine oE ?_|apply xX<;>intro hc
 all_goals simp only[ql,nC,hv.1,hv.2,dW,aA]
 all_goals (split<;>simp_all)
theorem GZ (a b:Bytes):aF 78 [.s a, .s b] (.tup [.s (sB a b).1, .s (sB a b).2.1,E (sB a b).2.2]):=by
 by_cases hv:aa a=true/\aa b=true
 case neg=>
  refine eW call78 func78 ?_;repeat' first|simp only[go_sem,seval]|refine cP (aQ _) ?_|refine oE ?_|apply xX<;>intro hc
  all_goals simp_all[sB]
 have la:=eu hv.1;have lb:=eu hv.2
 by_cases h0:b=[]
 ·subst h0;refine eW call78 func78 ?_;repeat' first|simp only[go_sem,seval,nn]|refine cP (aQ _) ?_|refine oE ?_|apply xX<;>intro hc
  all_goals simp_all[sB]
 have hp:=oI (bY hv.2) h0;have ho:=sN (bY hv.1) (bY hv.2) hp oO oO;refine eW call78 func78 ?_;repeat' first|simp only[go_sem,seval]|refine cP (aQ _) ?_|refine cP ho ?_|refine oE ?_|apply xX<;>intro hc
 all_goals simp_all[sB]
theorem nY (a:Bytes):aF 8 [.s a] (.tup [.i .u64 (if aa a&&decide (a.length<=8)then num a else 0), .b (aa a&&decide (a.length<=8))]):=by
 by_cases h:aa a=true/\a.length<=8
 ·have hu:=sO a h.2;refine eW call8 func8 ?_;repeat' first|simp only[go_sem,seval]|refine cP (aQ _) ?_|refine cP hu ?_|refine oE ?_|apply xX<;>intro hc
  all_goals simp_all
 ·refine eW call8 func8 ?_;repeat' first|simp only[go_sem,seval]|refine cP (aQ _) ?_|refine oE ?_|apply xX<;>intro hc
  all_goals simp_all
  all_goals omega
theorem KL (h:aa a=true):aF 293 [.s a] (E (cH (num a))):=by
 have la:=eu h;have hb:=zp (bY h) oO;refine eW call293 func293 ?_;repeat' first|simp only[go_sem,seval]|refine cP (aQ _) ?_|refine cP hb ?_|refine oE ?_|apply xX<;>intro hc
 all_goals simp_all
theorem CG (h:aa a=true) (i:Nat) (hi:i<1099511627776):aF 110 [.s a,E i] (.b ((num a).testBit i)):=by
 have la:=eu h;have hb:=zp (bY h) oO;have ho:=IQ a i oO hi;have hv:=aQ a;rw[h]at hv;have hlt: ¬i<cH (num a)->(num a).testBit i=false:=by
  intro g;rw[kN,iO (ba (si _) (cW oC oO))];rfl
 generalize (num a).testBit i=tb at*;refine eW call110 func110 ?_;repeat' first|simp only[go_sem,seval]|refine cP hv ?_|refine cP hb ?_|refine cP ho ?_|refine oE ?_|apply xX<;>intro hc
 all_goals simp_all
 all_goals (first|omega|skip)
theorem Fc {a:Nat} (ha:a<dP) (hb:b<dP):aF 212 [N a,N b] (N (Nat.gcd a b)):=by
 have hlim: ∀{x:Nat},x<dP->(aZ x).length<1048576:=fun h=>by have:=ql.2 h;omega
 refine eW call212 func212 ?_;simp only[go_sem,seval];refine aq (α:=Nat×Nat) (fun x=>x.2) (fun x=>⟨[(0, .v (N x.1)),(1, .v (N x.2))],[],_⟩) (fun x=>x.1<dP/\x.2<dP/\Nat.gcd x.1 x.2=Nat.gcd a b) (a,b) (fun _=>aB _) ⟨ha,hb,rfl⟩ ?_ ?_
 ·exact lE
 ·rintro⟨x,y⟩ ⟨hx,hy,hg⟩ R hR;simp only at hx hy hg
  by_cases h0:y=0
  ·subst h0;refine eJ @Cy ?_;rw[<-hg,Di]
  ·have e:=yQ h0;have hd:=sN (gF x) (gF y) (by rw[aP];omega) (hlim hx) (hlim hy)
   rw[aP,aP]at hd;refine qN @e @hd ?_;have hm:x%y<y:=aL _ oO;refine hR (y,x%y) ⟨hy,by show x%y< _;omega,?_⟩ hm _ ?_
   ·show Nat.gcd y (x%y)= _;rw[<-hg,lh x y,o5 y x,lh]
   ·exact lE
theorem RG {b:Bytes} (ha:aa a=true) (hb:aa b=true):aF 203 [.s a, .s b] (.tup [N (Nat.gcd (num a) (num b)),E 0]):=by
 have hc1:=Fc (oH ha) (oH hb);have e1:N (num a)= .s a:=congrArg PV.s (eU ha);have e2:N (num b)= .s b:=congrArg PV.s (eU hb);rw[e1,e2]at hc1;refine eW call203 func203 ?_;repeat' first|simp only[go_sem,seval]|refine cP (aQ _) ?_|refine cP hc1 ?_|refine oE ?_|apply xX<;>intro hc
 all_goals simp_all
theorem N9 {a:Nat} (h:a*b<dP) (ha:a<dP) (hb:b<dP):aF 25 [N a,N b] (.tup [N (a*b),E 0]):=by
 have:=IM (aZ a) (aZ b);simp only[nC,vB ha,vB hb,dW,aA,aP,h]at this;exact this
theorem zq {a:Nat} (ha:a<dP) (hb:b<dP) (h0:0<b):aF 78 [N a,N b] (.tup [N (a/b),N (a%b),E 0]):=by
 have:=GZ (aZ a) (aZ b);have e:aZ b≠[]:=fun h=>by rw[gR]at h;omega
 simpa only[sB,vB ha,vB hb,dW,aA,e,ak,aP]using this
