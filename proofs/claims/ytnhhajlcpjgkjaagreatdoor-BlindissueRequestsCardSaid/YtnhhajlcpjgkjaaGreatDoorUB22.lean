/- Part of the proof. -/
import Derived.Test.YtnhhajlcpjgkjaaGreatDoorUB21
set_option linter.all false
set_option maxHeartbeats 8000000
set_option maxRecDepth 100000
namespace Go.Dom
variable {a b g r0 r1:Nat} {x0 x1 y0 y1:Int}
structure tC (a b r0 r1:Nat) (x0 x1 y0 y1:Int):Prop where
 e0:(a:Int)*x0+b*y0=r0
 e1:(a:Int)*x1+b*y1=r1
 g:Nat.gcd r0 r1=Nat.gcd a b
 hx:x1.natAbs*r0+x0.natAbs*r1<=b
 hy:y1.natAbs*r0+y0.natAbs*r1<=a
 bx0:x0.natAbs<=b
 bx1:x1.natAbs<=b
 by0:y0.natAbs<=a+1
 by1:y1.natAbs<=a+1
theorem tC.start (hb:0<b):tC a b a b 1 0 0 1:=
 ⟨by omega,by omega,rfl,by simp,by simp,by show 1<=b;omega,by simp,by simp,by simp⟩
theorem EH {q B:Nat} (hq:q=r0/r1) (h:x1.natAbs*r0+x0.natAbs*r1<=B):(x0-q*x1).natAbs*r1+x1.natAbs*(r0%r1)<=B:=by
 have h1:(x0-q*x1).natAbs<=x0.natAbs+q*x1.natAbs:=by
  have:=Int.natAbs_sub_le x0 (q*x1)
  rwa[jg,Int.natAbs_natCast]at this
 have h2:=dC r1 h1;have h3:r1*q+r0%r1=r0:=by rw[hq];exact iJ r0 r1
 have h4:x1.natAbs*r0=x1.natAbs*(r1*q)+x1.natAbs*(r0%r1):=by rw[<-jW,h3]
 have h5:(x0.natAbs+q*x1.natAbs)*r1=x0.natAbs*r1+x1.natAbs*(r1*q):=by
  rw[dq,bZ q,cK,bZ q]
 omega
theorem tC.step (h:tC a b r0 r1 x0 x1 y0 y1) (h1:0<r1):tC a b r1 (r0%r1) x1 (x0-(r0/r1:Nat)*x1) y1 (y0-(r0/r1:Nat)*y1):=by
 have hx:=EH (q:=r0/r1) rfl h.hx;have hy:=EH (q:=r0/r1) rfl h.hy;have le: ∀{n B:Nat} {m:Nat},n*r1+m<=B->n<=B:=fun{n B m} g=>by
  have:=Nat.le_mul_of_pos_right n h1;omega
 refine⟨h.e1,?_,?_,hx,hy,h.bx1,le hx,h.by1,?_⟩
 ·have e0:=h.e0;have e1:=h.e1;have hd:=iJ r0 r1;generalize r0/r1=q at*;generalize r0%r1=t at*;have:(r0:Int)=r1*q+t:=by rw[<-hd];simp
  rw[pK,pK];have e3:(a:Int)*(q*x1)=q*(a*x1):=by rw[<-mi,rF (a:Int),mi]
  have e4:(b:Int)*(q*y1)=q*(b*y1):=by rw[<-mi,rF (b:Int),mi]
  have e5:(q:Int)*(a*x1)+q*(b*y1)=r1*q:=by rw[<-me,e1,rF]
  omega
 ·rw[<-h.g,kN r0 r1,nV r1 r0,kN]
 ·have:=le hy;omega
theorem Hl {X Y:Int} (h0:0<=X) (h:(a:Int)*X+b*Y=1):a*(X.natAbs%b)%b=1%b:=by
 obtain⟨n,rfl⟩:=Int.eq_ofNat_of_zero_le h0;rw[Int.natAbs_natCast,jR];have e:((a*n:Nat):Int)%b=(1:Int)%b:=by
  have:((a*n:Nat):Int)=1+b*(-Y):=by simp only[Int.natCast_mul,nW];omega
  rw[this,uI]
 exact_mod_cast e
theorem NK {a m i j:Nat} (hi:i<m) (hj:j<m) (h1:a*i%m=1%m) (h2:a*j%m=1%m):i=j:=by
 have e1:i*(a*j)%m=i%m:=by rw[<-jR,h2,jR,dG]
 have e2:i*(a*j)%m=j%m:=by rw[<-cK,bZ i a,<-jU,h1,jU,ie]
 rw[bE hi]at e1;rw[bE hj]at e2;omega
noncomputable def gV (a m:Nat):Nat:= @dite _ (∃i,i<m/\a*i%m=1%m) (Classical.propDecidable _) (fun h=>Classical.choose h) (fun _=>0)
theorem gW {a m i:Nat} (hi:i<m) (h:a*i%m=1%m):gV a m=i:=by
 have hx: ∃i,i<m/\a*i%m=1%m:=⟨i,hi,h⟩;unfold gV;rw[dif_pos hx];obtain⟨g1,g2⟩:=Classical.choose_spec hx;exact NK g1 hi g2 h
theorem tC.fin (h:tC a b g 0 x0 x1 y0 y1):g=Nat.gcd a b:=by
 have:=h.g;rwa[Eh]at this
theorem tC.inv (h:tC a b 1 0 x0 x1 y0 y1) (hb:0<b): ∀X:Int,X=(if x0<0 then x0+b else x0)->0<=X/\X<=b/\X.natAbs%b=gV a b:=by
 intro X hX;have b0:=h.bx0;have h0:0<=X:=by rw[hX];split<;>omega
 refine⟨h0,by rw[hX];split<;>omega,(gW (aQ _ hb) ?_).symm⟩
 have e0:=h.e0
 by_cases hx:x0<0
 ·rw[ah hx]at hX;refine Hl (Y:=y0-a) h0 ?_;rw[hX,me,pK,rF (b:Int) a];omega
 ·rw[af hx]at hX;exact Hl (Y:=y0) h0 (by rw[hX];omega)
def E9:Nat->Nat->Nat->Int->Int->Int->Int->Nat×Int×Int
 |0,r0,_,x0,_,y0,_=>(r0,x0,y0)
 |f+1,r0,r1,x0,x1,y0,y1=>if r1=0 then(r0,x0,y0)else E9 f r1 (r0%r1) x1 (x0-(r0/r1:Nat)*x1) y1 (y0-(r0/r1:Nat)*y1)
theorem Fa: ∀{f r0 r1:Nat} {x0 x1 y0 y1:Int},r1<f->tC a b r0 r1 x0 x1 y0 y1-> ∃x' y',tC a b (E9 f r0 r1 x0 x1 y0 y1).1 0 (E9 f r0 r1 x0 x1 y0 y1).2.1 x' (E9 f r0 r1 x0 x1 y0 y1).2.2 y'
 |0,_,_,_,_,_,_,h,_=>aP h (rL _)
 |f+1,r0,r1,x0,x1,y0,y1,h,hE=>by
  unfold E9;split
  ·rename_i h0;subst h0;exact⟨x1,y1,hE⟩
  ·rename_i h0;exact Fa (by have:=aQ r0 (show 0<r1 by omega);omega) (hE.step (by omega))
structure Tp (a b g:Nat) (x y:Int):Prop where
 z:b=0->x=1/\y=0
 bx:0<b->x.natAbs<=b
 by':0<b->y.natAbs<=max a 1
 e:(a:Int)*x+b*y=g
 g:g=Nat.gcd a b
theorem Tp.base (a:Nat):Tp a 0 a 1 0:=⟨fun _=>⟨rfl,rfl⟩,fun h=>by omega,fun h=>by omega,by simp,by simp⟩
theorem Tp.step {x y:Int} (hb:0<b) (h:Tp b (a%b) g x y):Tp a b g y (x-(a/b:Nat)*y):=by
 have hd:=iJ a b;have hg:g=Nat.gcd a b:=by rw[h.g,kN a b,nV b a,kN]
 have he:=h.e;have e1:(a:Int)=b*(a/b:Nat)+(a%b:Nat):=by
  have:((b*(a/b)+a%b:Nat):Int)=(a:Int):=by rw[hd]
  rw[<-this];simp
 rcases jS (a%b)with h0|h0
 ·obtain⟨rfl,rfl⟩:=h.z h0;refine⟨by omega,by simp,fun _=>by simp;omega,?_,hg⟩
  simp only[Int.mul_zero,Int.sub_zero,Int.mul_one,Int.zero_add,Int.add_zero]at he⊢;exact he
 ·have bx:=h.bx h0;have by1:y.natAbs<=b:=by have:=h.by' h0;omega
  refine⟨by omega,fun _=>by1,fun _=> ?_,?_,hg⟩
  ·have h1:(x-(a/b:Nat)*y).natAbs<=x.natAbs+a/b*y.natAbs:=by
    have:=Int.natAbs_sub_le x ((a/b:Nat)*y)
    rwa[jg,Int.natAbs_natCast]at this
   have h2:=jd (a/b) by1;have h3:a/b*b=b*(a/b):=bZ _ _;omega
  ·generalize a/b=q at*;generalize a%b=t at*;rw[pK,e1,Int.add_mul];have e3:(b:Int)*q*y=b*(q*y):=mi ..;omega
end Go.Dom
namespace Go.Proofs.Tryz
open Go Go.Dom
variable {x y:Int}
def zs (x:Int):Bool:=decide (x<0)
def zb (x:Int):Bytes:=bQ x.natAbs
abbrev Z (x:Int):PV:= .agg [.b (zs x), .s (zb x)]
def dP:Nat:=340282366920938463463374607431768211456
theorem xD:dP<=da:=by unfold da dP;decide+kernel
theorem GC:dP*dP<=da:=by unfold da dP;decide+kernel
theorem vB {n:Nat} (h:n<da):aa (bQ n)=true:=kI h
theorem lV (n:Nat):zb (n:Int)=bQ n:=rfl
theorem lW (n:Nat):zs (n:Int)=false:=by simp[zs]
theorem qE (x:Int):num (zb x)=x.natAbs:=ba _
theorem Xk (x:Int):(zb x==([]:Bytes))=decide (x=0):=by
 unfold zb;rw[cX];simp[fS]
theorem Xo (h:x.natAbs<da):(aa (zb x)&& !(zs x&&zb x==[]))=true:=by
 rw[Xk,show aa (zb x)=true from vB h]
 simp[zs];omega
theorem zmk (b:Bool) (n:Nat):(.agg [.b (b&& !(bQ n==[])),N n]:PV)=Z (if b then-(n:Int)else n):=by
 by_cases h:n=0
 ·subst h;cases b<;>rfl
 ·have e:(bQ n==([]:Bytes))=false:=qD h;cases b
  ·simp[Z,zs,zb]
  ·have:decide (-(n:Int)<0)=true:=aU oO;simp[Z,zs,zb,e,h];omega
theorem Z8 (x y:Int):(if(zs x !=zs y)then-((x.natAbs*y.natAbs:Nat):Int)else((x.natAbs*y.natAbs:Nat):Int))=x*y:=by
 rw[Int.natCast_mul];unfold zs
 by_cases h1:x<0<;>by_cases h2:y<0<;>simp only[h1,h2,decide_true,decide_false,mq,bM,az]
 ·have e1:(x.natAbs:Int)= -x:=oO;have e2:(y.natAbs:Int)= -y:=oO;rw[e1,e2,Int.neg_mul_neg]
 ·have e1:(x.natAbs:Int)= -x:=oO;have e2:(y.natAbs:Int)=y:=oO;simp only[Bool.bne_false,aB];rw[e1,e2,uR,Int.neg_neg]
 ·have e1:(x.natAbs:Int)=x:=oO;have e2:(y.natAbs:Int)= -y:=oO;simp only[Bool.false_bne,aB];rw[e1,e2,nW,Int.neg_neg]
 ·have e1:(x.natAbs:Int)=x:=oO;have e2:(y.natAbs:Int)=y:=oO;rw[e1,e2]
theorem P2 (h:zs x=zs y):(if zs x then-((x.natAbs+y.natAbs:Nat):Int)else((x.natAbs+y.natAbs:Nat):Int))=x+y:=by
 unfold zs at*
 by_cases h1:x<0<;>by_cases h2:y<0<;>simp[h1,h2]at h⊢ <;>omega
theorem JZ (h:zs x≠zs y) (hl:y.natAbs<=x.natAbs):(if zs x then-((x.natAbs-y.natAbs:Nat):Int)else((x.natAbs-y.natAbs:Nat):Int))=x+y:=by
 unfold zs at*
 by_cases h1:x<0<;>by_cases h2:y<0<;>simp[h1,h2]at h⊢ <;>omega
theorem P3 (h:zs x≠zs y) (hl:x.natAbs<=y.natAbs):(if zs y then-((y.natAbs-x.natAbs:Nat):Int)else((y.natAbs-x.natAbs:Nat):Int))=x+y:=by
 rw[Int.add_comm];exact JZ (kQ h) hl
theorem Z9 (y:Int):(if !zs y then-(y.natAbs:Int)else(y.natAbs:Int))= -y:=by
 unfold zs
 by_cases h:y<0<;>simp[h]<;>omega
theorem P5 (n m:Nat):((n:Int)/(m:Int)=((n/m:Nat):Int))/\(((n:Int)%(m:Int)).toNat=n%m):=⟨rfl,rfl⟩
theorem P4 {n m:Nat} (hm:0<m) (h0:n%m=0):(-(n:Int))/(m:Int)= -((n/m:Nat):Int)/\((-(n:Int))%(m:Int)).toNat=0:=by
 have hd:=iJ n m;have e: -(n:Int)=0+(m:Int)*(-((n/m:Nat):Int)):=by
  rw[nW,<-Int.natCast_mul];omega
 have hm':(m:Int)≠0:=oO;constructor
 ·rw[e,yj _ _ hm'];simp
 ·rw[e,uI];simp
theorem LZ {n m:Nat} (hm:0<m) (h0:n%m≠0):(-(n:Int))/(m:Int)= -((n/m+1:Nat):Int)/\((-(n:Int))%(m:Int)).toNat=m-n%m:=by
 have hd:=iJ n m;have hl:=aQ n hm;generalize n%m=r at*;have e: -(n:Int)=((m-r:Nat):Int)+(m:Int)*(-((n/m+1:Nat):Int)):=by
  rw[nW,<-Int.natCast_mul,jW,dG];omega
 have hm':(m:Int)≠0:=oO;have h1:((m-r:Nat):Int)/(m:Int)=0:=yf oO oO;have h2:((m-r:Nat):Int)%(m:Int)=((m-r:Nat):Int):=Int.emod_eq_of_lt oO oO;constructor
 ·rw[e,yj _ _ hm',h1,Int.zero_add]
 ·rw[e,uI,h2];omega
theorem fT {a b:Nat}:(0<=aW a b)↔b<=a:=by unfold aW;split<;>(try split)<;>omega
end Go.Proofs.Tryz
namespace Go.Dom
noncomputable def dJ (m x:Nat) (ng:Bool) (e:Nat):Nat:=(if ng then gV x m else x)^e%m
def eP (m x:Nat):Prop:= ∃i,i<m/\x*i%m=1%m
theorem eP.inv {m x:Nat} (h:eP m x):gV x m<m/\x*gV x m%m=1%m:=by
 obtain⟨i,h1,h2⟩:=h;rw[gW h1 h2];exact⟨h1,h2⟩
theorem eP.Yx {m x:Nat} (h:eP m x) (hm:0<m):eP m (gV x m):=
 ⟨x%m,aQ _ hm,by rw[jR,bZ];exact h.inv.2⟩
theorem eP.pow {m x:Nat} (h:eP m x) (hm:0<m) (e:Nat):eP m (x^e%m)/\gV (x^e%m) m=gV x m^e%m:=by
 obtain⟨h1,h2⟩:=h.inv;have key:x^e%m*(gV x m^e%m)%m=1%m:=by
  rw[<-cL,<-rD,jq,h2,<-jq,rH]
 have hl:gV x m^e%m<m:=aQ _ hm;exact⟨⟨_,hl,key⟩,gW hl key⟩
theorem eP.inv2 {m x:Nat} (h:eP m x) (hm:0<m):gV (gV x m) m=x%m:=
 gW (aQ _ hm) (by rw[jR,bZ];exact h.inv.2)
theorem eP.dJ {m x:Nat} (h:eP m x) (hm:0<m) (ng:Bool) (e:Nat):eP m (Dom.dJ m x ng e):=by
 unfold Dom.dJ;cases ng
 ·exact(h.pow hm e).1
 ·exact((h.Yx hm).pow hm e).1
theorem eP.mul {m x y:Nat} (h:eP m x) (g:eP m y) (hm:0<m):eP m (x*y%m):=by
 obtain⟨i,h1,h2⟩:=h;obtain⟨j,g1,g2⟩:=g;refine⟨i*j%m,aQ _ hm,?_⟩;rw[<-cL];have e:x*y*(i*j)=(x*i)*(y*j):=by
  rw[cK,cK];congr 1;rw[<-cK,bZ y i,cK]
 rw[e,cL,h2,g2,<-cL,ie]
theorem nE (m x a b:Nat):(x^a%m)^b%m=x^(a*b)%m:=by rw[<-jq,<-jY]
theorem B5 {m x:Nat} (h:eP m x) (hm:0<m) (n1 n2:Bool) (a b:Nat):dJ m (dJ m x n1 a) n2 b=dJ m x (n1 !=n2) (a*b):=by
 cases n1<;>cases n2
 ·simp only[dJ,bM,az,mq,nE]
 ·have:=(h.pow hm a).2;simp only[dJ,bM,az,aB,this,nE,Bool.bne_true,cC]
 ·simp only[dJ,bM,az,aB,nE,Bool.bne_false]
 ·have h1:=((h.Yx hm).pow hm a).2;rw[h.inv2 hm]at h1;simp only[dJ,aB,mq,bM,az,h1];rw[nE,<-jq]
theorem oM (m x:Nat) (n:Bool):dJ m x n 0=1%m:=by simp[dJ]
theorem nN {m x:Nat} (hm:0<m) (h:Nat.gcd x m=1):eP m x:=by
 have key: ∀(n a b:Nat),b<=n-> ∃X Y:Int,(a:Int)*X+b*Y=Nat.gcd a b:=by
  intro n
  induction n with
  |zero=>
   intro a b hb;obtain rfl:b=0:=by omega
   exact⟨1,0,by simp⟩
  |succ n ih=>
   intro a b hb;rcases jS b with rfl|h0
   ·exact⟨1,0,by simp⟩
   ·obtain⟨X,Y,e⟩:=ih b (a%b) (by have:=aQ a h0;omega)
    refine⟨Y,X-(a/b:Nat)*Y,?_⟩;have hg:Nat.gcd b (a%b)=Nat.gcd a b:=by rw[kN a b,nV b a,kN]
    rw[<-hg,<-e];have e1:(a:Int)=b*(a/b:Nat)+(a%b:Nat):=by
     have:((b*(a/b)+a%b:Nat):Int)=(a:Int):=by rw[iJ]
     rw[<-this];simp
    generalize a/b=q at*;generalize a%b=t at*;rw[pK,e1,Int.add_mul];have e3:(b:Int)*q*Y=b*(q*Y):=mi ..;omega
 obtain⟨X,Y,e⟩:=key m x m (aD _);rw[h]at e;refine⟨(X%(m:Int)).toNat,?_,?_⟩
 ·have:=nY X (show(0:Int)<m by omega)
  have:=lg X (show(m:Int)≠0 by omega)
  omega
 ·have h0:=lg X (show(m:Int)≠0 by omega)
  have e2:((x*(X%(m:Int)).toNat:Nat):Int)%m=(1:Int)%m:=by
   rw[Int.natCast_mul,pP h0,Int.mul_emod,Int.emod_emod_of_dvd _ (Int.dvd_refl _),<-Int.mul_emod];have:(x:Int)*X=1+m*(-Y):=by rw[nW];simp at e;omega
   rw[this,uI]
  exact_mod_cast e2
end Go.Dom
namespace Go.Proofs.Tryz
open Go Go.Dom
variable {a b:Nat} {x y:Int}
theorem Jt (a:Bytes):aE 141 [.s a] (.tup [.s (if a.length<=128 then a else[]),E (if a.length<=128 then 0 else 5)]):=by
 refine eW call141 func141 ?_;repeat' first|simp only[go_sem,seval]|refine oE ?_|apply xX<;>intro hc
 ·have h: ¬a.length<=128:=oO;simp[h]
 ·have h:a.length<=128:=oO;simp[h]
theorem Js (a b:Bytes):aE 60 [.s a, .s b] (.tup [.s (iR a b).1,E (iR a b).2]):=by
 by_cases hv:aa a=true/\aa b=true
 case neg=>
  refine eW call60 func60 ?_;repeat' first|simp only[go_sem,seval]|refine cP (aH _) ?_|refine oE ?_|apply xX<;>intro hc
  all_goals simp_all[iR]
 have la:=dI hv.1;have lb:=dI hv.2;have hp:=FZ a b oO oO;refine eW call60 func60 ?_;repeat' first|simp only[go_sem,seval]|refine cP (aH _) ?_|refine cP hp ?_|refine cP (Jt _) ?_|refine oE ?_|apply xX<;>intro hc
 all_goals simp only[jc,iR,hv.1,hv.2,cT,aB]
 all_goals (split<;>simp_all)
theorem Jy (a b:Bytes):aE 275 [.s a, .s b] (.tup [.s (sZ a b).1,E (sZ a b).2]):=by
 by_cases hv:aa a=true/\aa b=true
 case neg=>
  refine eW call275 func275 ?_;repeat' first|simp only[go_sem,seval]|refine cP (aH _) ?_|refine oE ?_|apply xX<;>intro hc
  all_goals simp_all[sZ]
 have la:=dI hv.1;have lb:=dI hv.2;have ho:=fR (bL hv.1) (bL hv.2) oO oO;have v1:=aH a;have v2:=aH b;rw[hv.1]at v1;rw[hv.2]at v2;refine eW call275 func275 ?_;repeat' first|simp only[go_sem,seval]|refine cP v1 ?_|refine cP v2 ?_|refine cP ho ?_|(refine gQ (mC a b oO oO (by rw[fx]at hc;omega)) rfl ?_)|refine oE ?_|apply xX<;>intro hc
 ·rw[fx]at hc;simp[sZ,hv.1,hv.2,show¬num b<=num a by omega]
 ·rw[fx]at hc;simp[sZ,hv.1,hv.2,show num b<=num a by omega]
theorem Ju (a b:Bytes):aE 228 [.s a, .s b] (.tup [.s (oh a b).1,E (oh a b).2]):=by
 by_cases hv:aa a=true/\aa b=true
 case neg=>
  refine eW call228 func228 ?_;repeat' first|simp only[go_sem,seval]|refine cP (aH _) ?_|refine oE ?_|apply xX<;>intro hc
  all_goals simp_all[oh]
 have la:=dI hv.1;have lb:=dI hv.2;have hp:=ru a b oO oO;refine eW call228 func228 ?_;repeat' first|simp only[go_sem,seval]|refine cP (aH _) ?_|refine cP hp ?_|refine cP (Jt _) ?_|refine oE ?_|apply xX<;>intro hc
 all_goals simp only[jc,oh,hv.1,hv.2,cT,aB]
 all_goals (split<;>simp_all)
theorem HJ (a b:Bytes):aE 448 [.s a, .s b] (.tup [.s (tP a b).1, .s (tP a b).2.1,E (tP a b).2.2]):=by
 by_cases hv:aa a=true/\aa b=true
 case neg=>
  refine eW call448 func448 ?_;repeat' first|simp only[go_sem,seval]|refine cP (aH _) ?_|refine oE ?_|apply xX<;>intro hc
  all_goals simp_all[tP]
 have la:=dI hv.1;have lb:=dI hv.2
 by_cases h0:b=[]
 ·subst h0;refine eW call448 func448 ?_;repeat' first|simp only[go_sem,seval,nn]|refine cP (aH _) ?_|refine oE ?_|apply xX<;>intro hc
  all_goals simp_all[tP]
 have hp:=nB (bL hv.2) h0;have ho:=qJ (bL hv.1) (bL hv.2) hp oO oO;refine eW call448 func448 ?_;repeat' first|simp only[go_sem,seval]|refine cP (aH _) ?_|refine cP ho ?_|refine oE ?_|apply xX<;>intro hc
 all_goals simp_all[tP]
theorem wz (a:Bytes):aE 365 [.s a] (.tup [.i .u64 (if aa a&&decide (a.length<=8)then num a else 0), .b (aa a&&decide (a.length<=8))]):=by
 by_cases h:aa a=true/\a.length<=8
 ·have hu:=uk a h.2;refine eW call365 func365 ?_;repeat' first|simp only[go_sem,seval]|refine cP (aH _) ?_|refine cP hu ?_|refine oE ?_|apply xX<;>intro hc
  all_goals simp_all
 ·refine eW call365 func365 ?_;repeat' first|simp only[go_sem,seval]|refine cP (aH _) ?_|refine oE ?_|apply xX<;>intro hc
  all_goals simp_all
  all_goals omega
theorem Cc {a:Bytes} (h:aa a=true):aE 232 [.s a] (E (cW (num a))):=by
 have la:=dI h;have hb:=Al (bL h) oO;refine eW call232 func232 ?_;repeat' first|simp only[go_sem,seval]|refine cP (aH _) ?_|refine cP hb ?_|refine oE ?_|apply xX<;>intro hc
 all_goals simp_all
theorem Dj {a:Bytes} (h:aa a=true) (i:Nat) (hi:i<1099511627776):aE 225 [.s a,E i] (.b ((num a).testBit i)):=by
 have la:=dI h;have hb:=Al (bL h) oO;have ho:=Jv a i oO hi;have hv:=aH a;rw[h]at hv;have hlt: ¬i<cW (num a)->(num a).testBit i=false:=by
  intro g;rw[lf,iL (br (tI _) (cQ oC oO))];rfl
 generalize (num a).testBit i=tb at*;refine eW call225 func225 ?_;repeat' first|simp only[go_sem,seval]|refine cP hv ?_|refine cP hb ?_|refine cP ho ?_|refine oE ?_|apply xX<;>intro hc
 all_goals simp_all
 all_goals (first|omega|skip)
theorem FQ (ha:a<da) (hb:b<da):aE 234 [N a,N b] (N (Nat.gcd a b)):=by
 have hlim: ∀{x:Nat},x<da->(bQ x).length<1048576:=fun h=>by have:=jc.2 h;omega
 refine eW call234 func234 ?_;simp only[go_sem,seval];refine ak (α:=Nat×Nat) (fun x=>x.2) (fun x=>⟨[(0, .v (N x.1)),(1, .v (N x.2))],[],_⟩) (fun x=>x.1<da/\x.2<da/\Nat.gcd x.1 x.2=Nat.gcd a b) (a,b) (fun _=>aD _) ⟨ha,hb,rfl⟩ ?_ ?_
 ·exact lE
 ·rintro⟨x,y⟩ ⟨hx,hy,hg⟩ R hR;simp only at hx hy hg
  by_cases h0:y=0
  ·subst h0;refine eJ @Bk ?_;rw[<-hg,Eh]
  ·have e:=qD h0;have hd:=qJ (fA x) (fA y) (by rw[ba];omega) (hlim hx) (hlim hy)
   rw[ba,ba]at hd;refine iy @e @hd ?_;have hm:x%y<y:=aQ _ oO;refine hR (y,x%y) ⟨hy,by show x%y< _;omega,?_⟩ hm _ ?_
   ·show Nat.gcd y (x%y)= _;rw[<-hg,kN x y,nV y x,kN]
   ·exact lE
theorem SF {a b:Bytes} (ha:aa a=true) (hb:aa b=true):aE 445 [.s a, .s b] (.tup [N (Nat.gcd (num a) (num b)),E 0]):=by
 have hc1:=FQ (jL ha) (jL hb);have e1:N (num a)= .s a:=congrArg PV.s (fk ha);have e2:N (num b)= .s b:=congrArg PV.s (fk hb);rw[e1,e2]at hc1;refine eW call445 func445 ?_;repeat' first|simp only[go_sem,seval]|refine cP (aH _) ?_|refine cP hc1 ?_|refine oE ?_|apply xX<;>intro hc
 all_goals simp_all
theorem OO (h:a+b<da):aE 60 [N a,N b] (.tup [N (a+b),E 0]):=by
 have:=Js (bQ a) (bQ b);simp only[iR,vB (show a<da by omega),vB (show b<da by omega),cT,aB,ba,h]at this
 exact this
theorem Jw (h:b<=a) (ha:a<da):aE 275 [N a,N b] (.tup [N (a-b),E 0]):=by
 have:=Jy (bQ a) (bQ b);simp only[sZ,vB ha,vB (show b<da by omega),cT,aB,ba,h]at this
 exact this
theorem TV (h:a*b<da) (ha:a<da) (hb:b<da):aE 228 [N a,N b] (.tup [N (a*b),E 0]):=by
 have:=Ju (bQ a) (bQ b);simp only[oh,vB ha,vB hb,cT,aB,ba,h]at this;exact this
theorem qH (ha:a<da) (hb:b<da) (h0:0<b):aE 448 [N a,N b] (.tup [N (a/b),N (a%b),E 0]):=by
 have:=HJ (bQ a) (bQ b);have e:bQ b≠[]:=fun h=>by rw[fS]at h;omega
 simpa only[tP,vB ha,vB hb,cT,aB,e,az,ba]using this
theorem Y5 (ha:a<da) (hb:b<da):aE 46 [N a,N b] (E (aW a b)):=by
 have:=gF (bQ a) (bQ b);simpa only[vB ha,vB hb,cT,aB,ba]using this
theorem iE (n:Bool) (a:Bytes):aE 114 [.agg [.b n, .s a]] (.b (aa a&& !(n&&a==[]))):=by
 have hv:=aH a;refine eW call114 func114 ?_;exact Qk @hv
theorem FV (n:Bool) (a:Bytes):aE 113 [.b n, .s a] (.agg [.b (n&& !(a==[])), .s a]):=by
 refine eW call113 func113 ?_;exact zs0
theorem jN (b:Bool) (n:Nat) {z:Int} (h:(if b then-(n:Int)else n)=z):aE 113 [.b b,N n] (Z z):=by
 have:=FV b (bQ n);rw[zmk,h]at this;exact this
theorem iZ (h:x.natAbs<da):aE 114 [Z x] (.b true):=by
 have:=iE (zs x) (zb x)
 rwa[Xo h]at this
theorem sT {n:Nat} (h:n<da):aE 48 [N n] (Z n):=by
 have hv:=aH (bQ n);rw[vB h]at hv;have hm:=jN false n rfl;refine eW call48 func48 ?_;repeat' first|simp only[go_sem,seval,Z]|refine cP hv ?_|refine cP hm ?_|refine oE ?_|apply xX<;>intro hc
theorem WL:aE 129 [E 1] (Z 1):=by
 have h1:=kB 1 oC;have hm:=jN false 1 rfl;refine eW call129 func129 ?_;repeat' first|simp only[go_sem,seval,Z]|refine cP h1 ?_|refine cP hm ?_|refine oE ?_|apply xX<;>intro hc
theorem aaZ:aE 129 [E 0] (Z 0):=by
 have h1:=kB 0 oC;have hm:=jN false 0 rfl;refine eW call129 func129 ?_;repeat' first|simp only[go_sem,seval,Z]|refine cP h1 ?_|refine cP hm ?_|refine oE ?_|apply xX<;>intro hc
theorem Y8 (h:y.natAbs<da):aE 455 [Z y] (Z (-y)):=by
 have hv:=iZ h;have hm:=jN (!zs y) y.natAbs (Z9 y);refine eW call455 func455 ?_;repeat' first|simp only[go_sem,seval,Z]|refine cP hv ?_|refine cP hm ?_|refine oE ?_|apply xX<;>intro hc
theorem Ao (hx:x.natAbs<da) (hy:y.natAbs<da) (h:x.natAbs*y.natAbs<da):aE 374 [Z x,Z y] (.tup [Z (x*y),E 0]):=by
 have v1:=iZ hx;have v2:=iZ hy;have hm:=TV (a:=x.natAbs) (b:=y.natAbs) h hx hy;have hk:=jN (zs x !=zs y) (x.natAbs*y.natAbs) (Z8 x y);refine eW call374 func374 ?_;repeat' first|simp only[go_sem,seval,Z]|refine cP v1 ?_|refine cP v2 ?_|refine cP hm ?_|refine cP hk ?_|refine oE ?_|apply xX<;>intro hc
theorem OS (hx:x.natAbs<dP) (hy:y.natAbs<dP):aE 374 [Z x,Z y] (.tup [Z (x*y),E 0]):=
 have hw:=xD
 Ao oO oO (br (fO hx hy) GC)
theorem OQ (hlim:x.natAbs+y.natAbs<da):aE 454 [Z x,Z y] (.tup [Z (x+y),E 0]):=by
 have v1:=iZ (x:=x) oO;have v2:=iZ (x:=y) oO
 by_cases hs:zs x=zs y
 ·have ha:=OO hlim;have hk:=jN (zs x) (x.natAbs+y.natAbs) (P2 hs);have hb: ∀ _:True,(zs x==zs y)=true:=fun _=>by rw[hs];simp
  clear hs hlim;refine eW call454 func454 ?_;repeat' first|simp only[go_sem,seval,Z,hb oT]|refine cP v1 ?_|refine cP v2 ?_|refine cP ha ?_|refine cP hk ?_|refine oE ?_|apply xX<;>intro hc
 have hb: ∀ _:True,(zs x==zs y)=false:=fun _=>by simpa using hs
 have hcm:=Y5 (a:=x.natAbs) (b:=y.natAbs) oO oO
 by_cases hl:y.natAbs<=x.natAbs
 ·have hd:=Jw hl oO;have hk:=jN (zs x) (x.natAbs-y.natAbs) (JZ hs hl);have hg: ∀ _:True,decide (aW x.natAbs y.natAbs>=0)=true:=fun _=>aU (fT.2 hl)
  generalize aW x.natAbs y.natAbs=cm at*;clear hs hlim;refine eW call454 func454 ?_;repeat' first|simp only[go_sem,seval,Z,hb oT,hg oT]|refine cP v1 ?_|refine cP v2 ?_|refine cP hcm ?_|refine cP hd ?_|refine cP hk ?_|refine oE ?_|apply xX<;>intro hc
 ·have hd:=Jw (a:=y.natAbs) (b:=x.natAbs) oO oO;have hk:=jN (zs y) (y.natAbs-x.natAbs) (P3 hs oO);have hg: ∀ _:True,decide (aW x.natAbs y.natAbs>=0)=false:=fun _=>bu (fun h=>hl (fT.1 h))
  generalize aW x.natAbs y.natAbs=cm at*;clear hs hlim;refine eW call454 func454 ?_;repeat' first|simp only[go_sem,seval,Z,hb oT,hg oT]|refine cP v1 ?_|refine cP v2 ?_|refine cP hcm ?_|refine cP hd ?_|refine cP hk ?_|refine oE ?_|apply xX<;>intro hc
theorem WI (hx:x.natAbs<dP) (hy:y.natAbs<dP):aE 454 [Z x,Z y] (.tup [Z (x+y),E 0]):=
 OQ (br (show _<dP*dP by unfold dP at*;omega) GC)
theorem OT (hlim:x.natAbs+y.natAbs<da):aE 375 [Z x,Z y] (.tup [Z (x-y),E 0]):=by
 have v1:=iZ (x:=x) oO;have v2:=iZ (x:=y) oO;have hn:=Y8 (y:=y) oO;have ha:=OQ (x:=x) (y:= -y) oO;rw[<-Int.sub_eq_add_neg]at ha;refine eW call375 func375 ?_;repeat' first|simp only[go_sem,seval,Z]|refine cP v1 ?_|refine cP v2 ?_|refine cP hn ?_|refine cP ha ?_|refine oE ?_|apply xX<;>intro hc
theorem WK (hx:x.natAbs<dP) (hy:y.natAbs<dP):aE 375 [Z x,Z y] (.tup [Z (x-y),E 0]):=
 OT (br (show _<dP*dP by unfold dP at*;omega) GC)
theorem AM:(2^64)<=dP:=by decide
theorem oZ:(2^64)<=da:=by unfold da;decide+kernel
theorem Cg {m:Nat} (hx:x.natAbs<dP) (hm:m<dP) (h0:0<m):aE 503 [Z x,Z m] (.tup [Z (x/m),N (x%m).toNat,E 0]):=by
 have hw:=xD;have v1:=iZ (x:=x) oO;have v2:=iZ (x:=(m:Int)) oO;have hd:=qH (a:=x.natAbs) (b:=m) oO oO h0;have e0:(bQ m==([]:Bytes))=false:=qD oO;have hl:=aQ x.natAbs h0;have hq:x.natAbs/m<=x.natAbs:=fg _ _;have h1:=kB 1 oC
 by_cases hs:x<0
 ·have hz:zs x=true:=by simp[zs,hs]
  have hn:x= -(x.natAbs:Int):=oO;simp only[Z,hz]at v1;simp only[Z,lW,lV]at v2
  by_cases hr:x.natAbs%m=0
  ·obtain⟨g1,g2⟩:=P4 h0 hr;rw[<-hn]at g1 g2;have hk:=jN true (x.natAbs/m) (z:=x/m) (by rw[g1];rfl)
   have e1:(bQ (x.natAbs%m)==([]:Bytes))=true:=by rw[hr];rfl
   rw[g2,<-hr];generalize x/(m:Int)=q at*;clear g1 g2 hn hr hw;refine eW call503 func503 ?_;repeat' first|simp only[go_sem,seval,Z,lW,lV,hz,e0,e1]|refine cP v1 ?_|refine cP v2 ?_|refine cP hd ?_|refine cP hk ?_|refine oE ?_|apply xX<;>intro hc
  ·obtain⟨g1,g2⟩:=LZ h0 hr;rw[<-hn]at g1 g2;have hk:=jN true (x.natAbs/m+1) (z:=x/m) (by rw[g1];rfl)
   have e1:(bQ (x.natAbs%m)==([]:Bytes))=false:=qD hr;have ha:=OO (a:=x.natAbs/m) (b:=1) (by have:=GC;unfold dP at*;omega)
   have hb:=Jw (a:=m) (b:=x.natAbs%m) oO oO;rw[g2];generalize x/(m:Int)=q at*;clear g1 g2 hn hr hw;refine eW call503 func503 ?_;repeat' first|simp only[go_sem,seval,Z,lW,lV,hz,e0,e1]|refine cP v1 ?_|refine cP v2 ?_|refine cP hd ?_|refine cP h1 ?_|refine cP ha ?_|refine cP hb ?_|refine cP hk ?_|refine oE ?_|apply xX<;>intro hc
 ·have hz:zs x=false:=by simp[zs,hs]
  have hn:x=(x.natAbs:Int):=oO;simp only[Z,hz]at v1;simp only[Z,lW,lV]at v2;obtain⟨g1,g2⟩:=P5 x.natAbs m;rw[<-hn]at g1 g2;have hk:=jN false (x.natAbs/m) (z:=x/m) (by rw[g1];rfl)
  rw[g2];generalize x/(m:Int)=q at*;clear g1 g2 hn hw;refine eW call503 func503 ?_;repeat' first|simp only[go_sem,seval,Z,lW,lV,hz,e0]|refine cP v1 ?_|refine cP v2 ?_|refine cP hd ?_|refine cP hk ?_|refine oE ?_|apply xX<;>intro hc
theorem WJ {m:Nat} (hx:x.natAbs<dP) (hm:m<dP) (h0:0<m):aE 450 [Z x,N m] (.tup [N (x%m).toNat,E 0]):=by
 have hw:=xD;have v1:=iZ (x:=x) oO;have v2:=aH (bQ m);rw[vB (show m<da by omega)]at v2
 have hf:=sT (n:=m) oO;have hd:=Cg hx hm h0;refine eW call450 func450 ?_;repeat' first|simp only[go_sem,seval,Z]|refine cP v1 ?_|refine cP v2 ?_|refine cP hf ?_|refine cP hd ?_|refine oE ?_|apply xX<;>intro hc
theorem HH: ∀(n a b:Nat),b<=n->a<(2^64)->b<(2^64)-> ∃g x y,Tp a b g x y/\aE 502 [N a,N b] (.tup [N g,Z x,Z y]):=by
 intro n
 induction n with
 |zero=>
  intro a b hn ha hb;obtain rfl:b=0:=oO;refine⟨a,1,0,Tp.base a,?_⟩;have h1:=WL;have h0:=aaZ;refine eW call502 func502 ?_;repeat' first|simp only[go_sem,seval,Bk,Z]|refine cP h1 ?_|refine cP h0 ?_|refine oE ?_|apply xX<;>intro hc
 |succ n ih=>
  intro a b hn ha hb
  by_cases hb0:b=0
  ·subst hb0;exact ih a 0 (aO _) ha hb
  have hpos:0<b:=oO;have hml:=aQ a hpos;obtain⟨g,x,y,hz,he⟩:=ih b (a%b) oO hb oO;have hst:=Tp.step hpos hz;refine⟨g,y,_,hst,?_⟩;have hq:a/b<=a:=fg _ _;have w1:=AM;have w2:=oZ;have by1:=hst.bx hpos;have bx1:x.natAbs<=b:=by
   rcases jS (a%b)with h0|h0
   ·obtain⟨rfl,-⟩:=hz.z h0;exact hpos
   ·have:=hz.bx h0;omega
  have hf:=sT (n:=a/b) oO;have hm:=OS (x:=((a/b:Nat):Int)) (y:=y) (by rw[Int.natAbs_natCast];omega) oO
  have hpb:(((a/b:Nat):Int)*y).natAbs<dP:=by
   rw[jg,Int.natAbs_natCast];have:a/b*y.natAbs<=a/b*b:=jd _ by1;have h2:a/b*b<=a:=rK a b;omega
  have hs:=WK (x:=x) (y:=((a/b:Nat):Int)*y) oO hpb;have hd:=qH (a:=a) (b:=b) oO oO hpos;have e0:=qD hb0;generalize x-((a/b:Nat):Int)*y=u at*;generalize ((a/b:Nat):Int)*y=v at*;clear hst hz hpb by1 bx1 hq ih;refine eW call502 func502 ?_;repeat' first|simp only[go_sem,seval,e0,Z,lW,lV]|refine cP hd ?_|refine cP he ?_|refine cP hf ?_|refine cP hm ?_|refine cP hs ?_|refine oE ?_|apply xX<;>intro hc
theorem Dk (ha:a<(2^64)) (hb:b<(2^64)) (h0:0<b): ∃X Y:Int,(Nat.gcd a b=1->0<=X/\X.natAbs%b=gV a b)/\X.natAbs<(2^64)/\aE 449 [N a,N b] (.tup [N (Nat.gcd a b),Z X,Z Y,E 0]):=by
 obtain⟨g,x,y,hz,he⟩:=HH b a b (aD _) ha hb;have hg:=hz.g;have hgp:0<g:=by rw[hg];exact Nat.gcd_pos_of_pos_right _ h0
 have hgb:g<=b:=by rw[hg];exact Er _ h0
 have hx:=hz.bx h0;have hy:=hz.by' h0
 have w1:=AM;have w2:=oZ;have hm1:b/g<=b:=fg _ _;have hk1:a/g<=a:=fg _ _;have hmp:0<b/g:=Nat.div_pos hgb hgp;have v1:=aH (bQ a);have v2:=aH (bQ b);rw[vB (show a<da by omega)]at v1
 rw[vB (show b<da by omega)]at v2
 have e0:(bQ b==([]:Bytes))=false:=qD oO;have d1:=qH (a:=b) (b:=g) oO oO hgp;have d2:=qH (a:=a) (b:=g) oO oO hgp;have f1:=sT (n:=b/g) oO;have f2:=sT (n:=a/g) oO;have dm:=Cg (x:=x) (m:=b/g) oO oO hmp;obtain⟨q,hq⟩: ∃q,q=x/((b/g:Nat):Int):=⟨_,rfl⟩;obtain⟨r,hr⟩: ∃r,r=(x%((b/g:Nat):Int)).toNat:=⟨_,rfl⟩;have hrl:r<b/g:=by
  have h1:=nY x (show(0:Int)<((b/g:Nat):Int) by omega)
  omega
 have hqb:q.natAbs<=x.natAbs+1:=by
  have h1:=lg x (show((b/g:Nat):Int)≠0 by omega)
  have h2:=nO x ((b/g:Nat):Int);rw[<-hq]at h2;have h3:(((b/g:Nat):Int)*q).natAbs=b/g*q.natAbs:=by rw[jg,Int.natAbs_natCast]
  have h4:q.natAbs<=b/g*q.natAbs:=D6 _ hmp
  by_cases hq0:q.natAbs<=1
  ·omega
  ·have h5:b/g+q.natAbs<=b/g*q.natAbs+1:=by
    obtain⟨u,hu⟩: ∃u,b/g=u+1:=⟨b/g-1,oO⟩;obtain⟨v,hv⟩: ∃v,q.natAbs=v+1:=⟨q.natAbs-1,oO⟩;rw[hu,hv,dq,jW];omega
   omega
 have mk:=OS (x:=q) (y:=((a/g:Nat):Int)) (by unfold dP;omega) (by rw[Int.natAbs_natCast];unfold dP;omega)
 have hpk:(q*((a/g:Nat):Int)).natAbs<dP:=by
  rw[jg,Int.natAbs_natCast];have:=jZ (show q.natAbs<=(2^64) by omega) (show a/g<=(2^64)-1 by omega)
  unfold dP;omega
 have ad:=WI (x:=y) (y:=q*((a/g:Nat):Int)) (by unfold dP;omega) hpk
 have fr:=sT (n:=r) oO;refine⟨(r:Int),y+q*((a/g:Nat):Int),?_,oO,?_⟩
 ·intro h1;have g1:g=1:=by rw[hg];exact h1
  refine⟨oO,(gW (aQ _ h0) ?_).symm⟩;have he1:=hz.e;rw[g1]at hr he1;rw[iI]at hr;have hnn:=lg x (show(b:Int)≠0 by omega)
  have:=Hl (a:=a) (b:=b) (X:=x%(b:Int)) (Y:=y+a*(x/(b:Int))) hnn (by
   have h2:=nO x (b:Int);have h3:x%(b:Int)=x-b*(x/(b:Int)):=oO;rw[h3,pK,me];have h4:(a:Int)*(b*(x/(b:Int)))=b*(a*(x/(b:Int))):=by rw[<-mi,rF (a:Int),mi]
   simp only[Int.natCast_one]at he1;omega)
  have e5:(r:Int).natAbs=(x%(b:Int)).natAbs:=by rw[hr];omega
  rw[e5];exact this
 ·rw[<-hg];rw[<-hq,<-hr]at dm;generalize q*((a/g:Nat):Int)=u at*;generalize y+u=v at*;clear hz hx hy hpk hqb hrl hq hr hmp hm1 hk1 hgp hgb hg;refine eW call449 func449 ?_;repeat' first|simp only[go_sem,seval,e0,Z,lW,lV]|refine cP v1 ?_|refine cP v2 ?_|refine cP he ?_|refine cP d1 ?_|refine cP d2 ?_|refine cP f1 ?_|refine cP f2 ?_|refine cP dm ?_|refine cP mk ?_|refine cP ad ?_|refine cP fr ?_|refine oE ?_|apply xX<;>intro hc
theorem rm {a m:Nat} (ha:a<da) (hm:m<da) (h0:0<m):aE 366 [N a,N m] (N (a%m)):=by
 have hd:=qH ha hm h0;refine eW call366 func366 ?_;exact z1 @hd
theorem Y4 (a m:Bytes):aE 235 [.sl [.s a, .s m]] (E (sG [a] m)):=by
 have va:=aH a;have vm:=aH m;refine eW call235 func235 ?_;repeat' first|simp only[go_sem,seval,gO,gM]|refine cP va ?_|refine cP vm ?_|(refine aj ?_)|refine oE ?_|apply xX<;>intro hc
 all_goals simp_all[sG]
theorem TU (a b m:Bytes):aE 235 [.sl [.s a, .s b, .s m]] (E (sG [a,b] m)):=by
 have va:=aH a;have vb:=aH b;have vm:=aH m;refine eW call235 func235 ?_;repeat' first|simp only[go_sem,seval,gO,gM]|refine cP va ?_|refine cP vb ?_|refine cP vm ?_|(refine aj ?_)|refine oE ?_|apply xX<;>intro hc
 all_goals simp_all[sG]
theorem Dn {a b m:Nat} (ha:a<(2^64)) (hb:b<(2^64)) (hm:m<(2^64)) (h0:0<m):aE 236 [N a,N b,N m] (N (a*b%m)):=by
 have w2:=oZ;have hs:=wz (bQ m);rw[vB (show m<da by omega),aU (lN hm),ba]at hs
 have d1:=rm (a:=a) (m:=m) oO oO h0;have d2:=rm (a:=b) (m:=m) oO oO h0;have l1:=aQ a h0;have l2:=aQ b h0;have s1:=wz (bQ (a%m));rw[vB (show a%m<da by omega),aU (lN (show a%m<(2^64) by omega)),ba]at s1
 have s2:=wz (bQ (b%m));rw[vB (show b%m<da by omega),aU (lN (show b%m<(2^64) by omega)),ba]at s2
 have hmul:a%m*(b%m)<(2^64)*(2^64):=fO oO oO;have hlm:(2^64)*(2^64)<=da:=by unfold da;decide+kernel
 have hp:=TV (a:=a%m) (b:=b%m) oO oO oO;have d3:=rm (a:=a%m*(b%m)) (m:=m) oO oO h0;rw[<-cL]at d3;have hl3:=aQ (a*b) h0
 by_cases hsm:m<2147483648
 ·have ho:=kB (a*b%m) oO;have hlt:a%m*(b%m)<(2^64):=by
   have:a%m*(b%m)<2147483648*2147483648:=fO oO oO;omega
  have hw: ∀ _:True,IntKind.u64.wrap (((a%m:Nat):Int)*((b%m:Nat):Int))=((a%m*(b%m):Nat):Int):=fun _=>by
   rw[<-Int.natCast_mul,IntWalk.u64_in _ oO]
  have hmm: ∀ _:True,((a%m*(b%m):Nat):Int).tmod (m:Int)=((a*b%m:Nat):Int):=fun _=>by
   rw[cL];rfl
  clear hp d3 hmul hlm;generalize a%m=u at*;generalize b%m=v at*;refine eW call236 func236 ?_;repeat' first|simp only[go_sem,seval,aB,hw oT,hmm oT]|refine cP hs ?_|refine cP d1 ?_|refine cP d2 ?_|refine cP s1 ?_|refine cP s2 ?_|refine cP ho ?_|refine oE ?_|apply xX<;>intro hc
 ·clear hmul hlm;refine eW call236 func236 ?_;repeat' first|simp only[go_sem,seval,aB]|refine cP hs ?_|refine cP d1 ?_|refine cP d2 ?_|refine cP hp ?_|refine cP d3 ?_|refine oE ?_|apply xX<;>intro hc
theorem Y7 {a b m:Nat} (ha:a<(2^64)) (hb:b<(2^64)) (hm:m<(2^64)) (h0:0<m):aE 116 [N a,N b,N m] (.tup [N (a*b%m),E 0]):=by
 have hc:=TU (bQ a) (bQ b) (bQ m);rw[EW ha (vN hb) hm h0]at hc;have ht:=Dn ha hb hm h0;refine eW call116 func116 ?_;exact z2 @hc @ht
theorem wu {a m:Nat} {e:Bytes} (ha:a<(2^64)) (he:aa e=true) (hm:m<(2^64)) (h0:0<m):aE 368 [N a, .s e,N m] (N (a^num e%m)):=by
 have w2:=oZ;have ho:=kB 1 oC;have d1:=rm (a:=1) (m:=m) oO oO h0;have hb:=Cc he;have hbi:=fun i hi=>Dj he i hi
 obtain⟨n,hn⟩: ∃n,n=num e:=⟨_,rfl⟩;have hbl:cW n<1000000:=by
  have h1:n<2^1024:=by
   rw[hn];refine br (cF e) ?_;have le:=dI he;exact gj (cQ oC le) (by decide+kernel)
  by_cases hz:n=0
  ·rw[hz];decide
  ·obtain⟨g1,g2⟩:=tH hz;have:=(rB (by decide:1<2)).1 (eR g1 h1)
   omega
 rw[<-hn]at hb hbi⊢;have hb2:n/2^cW n=0:=iL (tI n);clear hn;refine eW call368 func368 ?_;repeat' first|simp only[go_sem,seval]|refine cP ho ?_|refine cP d1 ?_|refine cP hb ?_|refine oE ?_|apply xX<;>intro hc
 refine ak (α:=Nat) (fun k=>k) (fun k=>⟨[(0, .v (N a)),(1, .v (.s e)),(2, .v (N m)),(7, .v (N (a^(n/2^k)%m))),(8, .v (.i .i64 ((k:Int)-1)))],[],_⟩) (fun k=>k<=cW n) (cW n) (fun _=>aD _) (aD _) ?_ ?_
 ·(refine AS.Le.of (by first|decide|omega) ?_ ?_<;>simp[dw,du,aS,aC,AV.bd,AV.bd.bdL,u8,an,ar,aA])
  rw[hb2,Nat.pow_zero]
 ·intro k hk R hR
  cases k with
  |zero=>
   refine xF ?_;rw[iI]
  |succ k=>
   obtain⟨x,hx⟩: ∃x,x=a^(n/2^(k+1))%m:=⟨_,rfl⟩;have hxm:x<m:=by rw[hx];exact aQ _ h0
   have hxx:x*x%m<m:=aQ _ h0;have t1:=Dn (a:=x) (b:=x) oO oO hm h0;have t2:=Dn (a:=x*x%m) (b:=a) oO ha hm h0;have hbit:=hbi k oO;rw[lf]at hbit;have hdd:=Fs n k;have hw0: ∀ _:True,((k+1:Nat):Int)-1=(k:Int):=fun _=>oO
   have hge0: ∀ _:True,decide ((k:Int)>=0)=true:=fun _=>by simp
   rw[<-hx];repeat' first|simp only[go_sem,seval,hw0 oT,hge0 oT]|refine cP t1 ?_|refine cP t2 ?_|refine cP hbit ?_|refine oE ?_|apply xX<;>intro hc
   ·have ez:x*x%m*a%m=a^(n/2^k)%m:=by
     have e3:x*x%m=a^(n/2^(k+1))*a^(n/2^(k+1))%m:=by rw[hx,<-cL]
     rw[e3,jU,<-dk,<-Nat.pow_succ];congr 2;omega
    refine hR k oO oO _ ?_;rw[<-ez];exact lE
   ·have ez:x*x%m=a^(n/2^k)%m:=by
     rw[hx,<-cL,<-dk];congr 2;omega
    refine hR k oO oO _ ?_;rw[<-ez];exact lE
theorem Y6 {a m:Nat} {e:Bytes} (ha:a<(2^64)) (he:aa e=true) (hm:m<(2^64)) (h0:0<m):aE 364 [N a, .s e,N m] (.tup [N (a^num e%m),E 0]):=by
 have hc:=TU (bQ a) e (bQ m);rw[EW ha he hm h0]at hc;have hr:=wu ha he hm h0;refine eW call364 func364 ?_;exact z2 @hc @hr
theorem FT {a m:Nat} (ha:a<(2^64)) (hm:m<(2^64)) (h0:0<m) (hg:Nat.gcd a m=1):aE 367 [N a,N m] (.tup [N (gV a m),E 0]):=by
 have w1:=AM;have w2:=oZ;have hc:=Y4 (bQ a) (bQ m);rw[MT ha hm h0]at hc;have hd:=rm (a:=a) (m:=m) oO oO h0;have hl:=aQ a h0;have hg':Nat.gcd (a%m) m=1:=by rw[<-hg,<-nV,kN]
 obtain⟨X,Y,h1,h2,h3⟩:=Dk (a:=a%m) (b:=m) oO hm h0;obtain⟨h4,h5⟩:=h1 hg';rw[hg']at h3;have ho:=kB 1 oC;have hi:=WJ (x:=X) (m:=m) oO oO h0;have hX:(X%(m:Int)).toNat=gV a m:=by
  obtain⟨n,rfl⟩:=Int.eq_ofNat_of_zero_le h4;rw[Int.natAbs_natCast]at h5;have e1:((n:Int)%(m:Int)).toNat=n%m:=rfl;rw[e1,h5];obtain⟨g1,g2⟩:=(nN h0 hg').inv;exact(gW g1 (by rw[jU]at g2;exact g2)).symm
 rw[hX]at hi;have hbn:(bQ 1 !=bQ 1)=false:=by simp
 clear h1 h4 h5 hX;refine eW call367 func367 ?_;repeat' first|simp only[go_sem,seval,Z,hbn,mq,dt]|refine cP hc ?_|refine cP hd ?_|refine cP h3 ?_|refine cP ho ?_|refine cP hi ?_|refine oE ?_|apply xX<;>intro hc
theorem LA {a m:Nat} {e:Bytes} {ng:Bool} (ha:a<m) (he:aa e=true) (hz:(ng&&e==[])=false) (hm:m<(2^64)) (hu:Nat.gcd a m=1):aE 237 [N a, .agg [.b ng, .s e],N m] (.tup [N (dJ m a ng (num e)),E 0]):=by
 have h0:0<m:=oO;have w2:=oZ;have v1:=aH (bQ a);have v2:=aH (bQ m);rw[vB (show a<da by omega)]at v1
 rw[vB (show m<da by omega)]at v2
 have v3:=iE ng e;rw[he,hz]at v3;have e0:(bQ m==([]:Bytes))=false:=qD oO;have hi:=FT (show a<(2^64) by omega) hm h0 hu
 have hil:=(nN h0 hu).inv.1;cases ng
 ·have hr:=wu (a:=a) (m:=m) (e:=e) oO he hm h0;have e1:dJ m a false (num e)=a^num e%m:=rfl;rw[e1];refine eW call237 func237 ?_;exact wO @e0 @v1 @v2 @v3 @hr
 ·have hr:=wu (a:=gV a m) (m:=m) (e:=e) oO he hm h0;have e1:dJ m a true (num e)=gV a m^num e%m:=rfl;rw[e1];refine eW call237 func237 ?_;exact P7 @e0 @v1 @v2 @v3 @hi @hr oT oT
end Go.Proofs.Tryz
namespace Go.Dom
def pp (l:List (Nat×Nat)) (k:Nat):Nat:=l.foldr (fun p a=>p.1^(p.2/2^k)*a) 1
def pb (l:List (Nat×Nat)) (k:Nat):Nat:=l.foldr (fun p a=>p.1^(p.2/2^k%2)*a) 1
theorem xP (p:Nat×Nat) (l:List (Nat×Nat)) (k:Nat):pp (p::l) k=p.1^(p.2/2^k)*pp l k:=rfl
theorem De (p:Nat×Nat) (l:List (Nat×Nat)) (k:Nat):pb (p::l) k=p.1^(p.2/2^k%2)*pb l k:=rfl
theorem Si (l:List (Nat×Nat)) (p:Nat×Nat) (k:Nat):pb (l++[p]) k=pb l k*p.1^(p.2/2^k%2):=by
 induction l with
 |nil=>simp[pb]
 |cons q l ih=>rw[List.cons_append,De,De,ih,cK]
theorem Sk (l:List (Nat×Nat)) (k:Nat):pp l k=pp l (k+1)*pp l (k+1)*pb l k:=by
 induction l with
 |nil=>rfl
 |cons p l ih=>
  rw[xP,xP,De,ih];have e:p.2/2^k=p.2/2^(k+1)+p.2/2^(k+1)+p.2/2^k%2:=by
   have:p.2/2^(k+1)=p.2/2^k/2:=by rw[Nat.pow_succ,eZ]
   omega
  rw[e,dk,dk,<-e];generalize p.1^(p.2/2^(k+1))=a;generalize p.1^(p.2/2^k%2)=b;generalize pp l (k+1)=c;generalize pb l k=d;simp only[cK,Ef,bZ]
theorem Wo {l:List (Nat×Nat)} {k:Nat} (h: ∀p∈l,p.2<2^k):pp l k=1:=by
 induction l with
 |nil=>rfl
 |cons p l ih=>
  rw[xP,ih fun q hq=>h q (jm _ hq),iL (h p (rI ..))];rfl
noncomputable def MI (M:Nat) (x:Nat) (e:Bool×Bytes):Nat:=if e.1 then gV x M else x
noncomputable def wc (M:Nat) (l:List (Nat×(Bool×Bytes))):Nat:=pp (l.map fun p=>(MI M p.1 p.2,num p.2.2)) 0%M
theorem xQ (M:Nat):wc M []=1%M:=rfl
theorem OG (p:Nat×Nat) (l:List (Nat×Nat)):pp (p::l) 0=p.1^p.2*pp l 0:=by rw[xP,Nat.pow_zero,iI]
theorem qF (M:Nat) (x:Nat) (e:Bool×Bytes) (l:List (Nat×(Bool×Bytes))):wc M ((x,e)::l)=dJ M x e.1 (num e.2)*wc M l%M:=by
 unfold wc dJ;rw[bV,OG,<-cL];rfl
theorem Sn (M:Nat) (x:Nat) (e:Bool×Bytes):wc M [(x,e)]=dJ M x e.1 (num e.2):=by
 rw[qF,xQ,jR,dG];unfold dJ;rw[eE]
noncomputable def gY (m x:Nat) (z:Int):Nat:=dJ m x (decide (z<0)) z.natAbs
theorem pz {m x y:Nat} (h:x*y%m=1%m) (n k:Nat):x^(n+k)*y^k%m=x^n%m:=by
 rw[dk,cK,<-rD,cL,jq (x*y) k m,h,<-jq,rH,<-cL,dG]
theorem nD (m x:Nat) (n:Nat):gY m x (n:Int)=x^n%m:=by
 unfold gY dJ;rw[bu (by omega)];simp
theorem mS {m x:Nat} (n:Nat):gY m x (-(n:Int))=gV x m^n%m:=by
 unfold gY dJ
 by_cases h:n=0
 ·subst h;simp
 ·rw[aU (by omega)];simp
theorem FK {m x:Nat} (h:eP m x) (hm:0<m) (a b:Int):gY m x a*gY m x b%m=gY m x (a+b):=by
 obtain⟨h1,h2⟩:=h.inv;have h3:gV x m*x%m=1%m:=by rw[bZ];exact h2
 rcases Int.eq_nat_or_neg a with⟨n,rfl|rfl⟩<;>rcases Int.eq_nat_or_neg b with⟨k,rfl|rfl⟩
 ·rw[nD,nD,<-cL,<-dk,<-nD];simp
 ·rw[nD,mS,<-cL];rcases Nat.le_total k n with hk|hk
  ·obtain⟨d,rfl⟩:=yC hk;rw[gN k d,pz h2,<-nD];congr 1;omega
  ·obtain⟨d,rfl⟩:=yC hk;rw[bZ,gN n d,pz h3,<-mS];congr 1;omega
 ·rw[nD,mS,<-cL];rcases Nat.le_total k n with hk|hk
  ·obtain⟨d,rfl⟩:=yC hk;rw[gN k d,pz h3,<-mS];congr 1;omega
  ·obtain⟨d,rfl⟩:=yC hk;rw[bZ,gN n d,pz h2,<-nD];congr 1;omega
 ·rw[mS,mS,<-cL,<-dk,<-mS];congr 1;omega
theorem B4 (m x:Nat):gY m x 0=1%m:=oM _ _ _
theorem oL {m x:Nat} (h:eP m x) (hm:0<m) (a b:Int):gY m (gY m x a) b=gY m x (a*b):=by
 unfold gY;rw[B5 h hm,jg]
 by_cases h0:a.natAbs*b.natAbs=0
 ·rw[h0,oM,oM]
 ·congr 1;have ha:a≠0:=fun e=>h0 (by simp[e])
  have hb:b≠0:=fun e=>h0 (by simp[e])
  rw[cX];simp only[pQ,ne_eq,fh,bw];rcases Int.lt_or_gt_of_ne ha with h1|h1<;>rcases Int.lt_or_gt_of_ne hb with h2|h2
  ·have:=Int.mul_pos_of_neg_of_neg h1 h2;generalize a*b=c at*;omega
  ·have:=Int.mul_neg_of_neg_of_pos h1 h2;generalize a*b=c at*;omega
  ·have:=Int.mul_neg_of_pos_of_neg h1 h2;generalize a*b=c at*;omega
  ·have:=Int.mul_pos h1 h2;generalize a*b=c at*;omega
theorem NI {m x y:Nat} (h:eP m x) (g:eP m y) (hm:0<m):gV (x*y%m) m=gV x m*gV y m%m:=by
 refine gW (aQ _ hm) ?_;rw[<-cL,show x*y*(gV x m*gV y m)=(x*gV x m)*(y*gV y m) by rw[cK,cK];congr 1;rw[<-cK,bZ y,cK],cL,h.inv.2,g.inv.2,<-cL,ie]
theorem OC {m x y:Nat} (h:eP m x) (g:eP m y) (hm:0<m) (z:Int):gY m (x*y%m) z=gY m x z*gY m y z%m:=by
 unfold gY dJ
 cases decide (z<0)
 ·simp only[bM,az];rw[<-jq,rD,cL]
 ·simp only[aB];rw[NI h g hm,<-jq,rD,cL]
theorem Cu {m x:Nat} (h:eP m x) (hm:0<m) (z:Int):eP m (gY m x z):=h.dJ hm _ _
theorem FL (m x:Nat) (z:Int):gY m x z%m=gY m x z:=eE _ _
noncomputable def Ac (m:Nat):List (Nat×Int)->Nat
 |[]=>1%m
 |p::l=>gY m p.1 p.2*Ac m l%m
theorem AI {m:Nat} (hm:0<m):eP m (1%m):=⟨1%m,aQ _ hm,by rw[<-cL,ie]⟩
theorem PL {m:Nat} (hm:0<m) {l:List (Nat×Int)} (h: ∀p∈l,eP m p.1):eP m (Ac m l):=by
 induction l with
 |nil=>exact AI hm
 |cons p l ih=>exact(Cu (h p (.head _)) hm _).mul (ih fun q hq=>h q (.tail _ hq)) hm
variable {α:Type} {m:Nat} (b:α->Nat)
theorem Sl (hm:0<m) (e f:α->Int) {l:List α} (h: ∀t∈l,eP m (b t)):Ac m (l.map fun t=>(b t,e t))*Ac m (l.map fun t=>(b t,f t))%m=Ac m (l.map fun t=>(b t,e t+f t)):=by
 induction l with
 |nil=>simp only[ca,Ac];rw[<-cL,ie]
 |cons t l ih=>
  simp only[bV,Ac];rw[<-FK (h t (.head _)) hm,<-ih fun q hq=>h q (.tail _ hq),<-cL,<-cL]
  congr 1;simp only[cK,Ef]
theorem Sm (hm:0<m) (e:α->Int) (z:Int) {l:List α} (h: ∀t∈l,eP m (b t)):gY m (Ac m (l.map fun t=>(b t,e t))) z=Ac m (l.map fun t=>(b t,e t*z)):=by
 induction l with
 |nil=>
  simp only[ca,Ac];have:=oL (AI hm) hm 0 z
  rwa[Int.zero_mul,B4]at this
 |cons t l ih=>
  have hl: ∀q∈l,eP m (b q):=fun q hq=>h q (.tail _ hq)
  simp only[bV,Ac];rw[OC (Cu (h t (.head _)) hm _) (PL hm fun p hp=>by
   obtain⟨q,hq,rfl⟩:=cE.1 hp;exact hl q hq) hm,oL (h t (.head _)) hm,ih hl]
theorem Lq {e f:α->Int} {l:List α} (h: ∀t∈l,gY m (b t) (e t)=gY m (b t) (f t)):Ac m (l.map fun t=>(b t,e t))=Ac m (l.map fun t=>(b t,f t)):=by
 induction l with
 |nil=>rfl
 |cons t l ih=>
  simp only[bV,Ac];rw[h t (.head _),ih fun q hq=>h q (.tail _ hq)]
theorem OD {x o:Nat} (hx:eP m x) (hm:0<m) (ho:x^o%m=1%m) {a c:Int} (h:(o:Int)∣a-c):gY m x a=gY m x c:=by
 obtain⟨k,hk⟩:=h;have e:a=c+o*k:=by omega
 have h1:gY m x (o*k)=1%m:=by
  rw[<-oL hx hm,nD,ho];have:=oL (AI hm) hm 0 k
  rwa[Int.zero_mul,B4]at this
 rw[e,<-FK hx hm,h1,jR,dG,FL]
theorem O9 (hm:0<m) {l:List α} (h: ∀t∈l,eP m (b t)) (w s r:α->Int) (c:Int) (hr: ∀t∈l,gY m (b t) (r t)=gY m (b t) (s t+c*w t)):
  gY m (Ac m (l.map fun t=>(b t,w t))) (-c)*Ac m (l.map fun t=>(b t,r t))%m=Ac m (l.map fun t=>(b t,s t)):=by
 rw[Sm b hm w (-c) h,Lq b hr,Sl b hm _ _ h];congr 2
 funext t
 congr 1;rw[nW,rF];omega
theorem OH (hm:0<m) (e:α->Int) {l:List α} (x:Nat) (hx:x%m=x):l.foldl (fun y t=>y*gY m (b t) (e t)%m) x=x*Ac m (l.map fun t=>(b t,e t))%m:=by
 induction l generalizing x with
 |nil=>simp only[List.foldl_nil,ca,Ac];rw[jR,dG,hx]
 |cons t l ih=>
  simp only[List.foldl_cons,bV,Ac];rw[ih _ (eE _ _),jU,jR,cK]
theorem So (l:List (Nat×Int)) (g:Nat×Int->Nat×(Bool×Bytes)) (hg: ∀p,g p=(p.1,(decide (p.2<0),bQ p.2.natAbs))):wc m (l.map g)=Ac m l:=by
 induction l with
 |nil=>rfl
 |cons p l ih=>rw[bV,hg,qF,ih,Ac,ba];rfl
