/- Part of the proof. -/
import Derived.Test.YtnhhajlcpjgkjaaGreatDoorUC24
set_option linter.all false
set_option maxHeartbeats 8000000
set_option maxRecDepth 100000
namespace Go.Dom
variable {a b g r0 r1:Nat} {x0 x1 y0 y1:Int}
structure r9 (a b r0 r1:Nat) (x0 x1 y0 y1:Int):Prop where
 e0:(a:Int)*x0+b*y0=r0
 e1:(a:Int)*x1+b*y1=r1
 g:Nat.gcd r0 r1=Nat.gcd a b
 hx:x1.natAbs*r0+x0.natAbs*r1<=b
 hy:y1.natAbs*r0+y0.natAbs*r1<=a
 bx0:x0.natAbs<=b
 bx1:x1.natAbs<=b
 by0:y0.natAbs<=a+1
 by1:y1.natAbs<=a+1
theorem r9.start (hb:0<b):r9 a b a b 1 0 0 1:=
 ⟨by omega,by omega,rfl,by simp,by simp,by show 1<=b;omega,by simp,by simp,by simp⟩
theorem Dt {q B:Nat} (hq:q=r0/r1) (h:x1.natAbs*r0+x0.natAbs*r1<=B):(x0-q*x1).natAbs*r1+x1.natAbs*(r0%r1)<=B:=by
 have h1:(x0-q*x1).natAbs<=x0.natAbs+q*x1.natAbs:=by
  have:=Int.natAbs_sub_le x0 (q*x1)
  rwa[lj,Int.natAbs_natCast]at this
 have h2:=dq r1 h1;have h3:r1*q+r0%r1=r0:=by rw[hq];exact ik r0 r1
 have h4:x1.natAbs*r0=x1.natAbs*(r1*q)+x1.natAbs*(r0%r1):=by rw[<-jz,h3]
 have h5:(x0.natAbs+q*x1.natAbs)*r1=x0.natAbs*r1+x1.natAbs*(r1*q):=by
  rw[dc,bU q,cA,bU q]
 omega
theorem r9.step (h:r9 a b r0 r1 x0 x1 y0 y1) (h1:0<r1):r9 a b r1 (r0%r1) x1 (x0-(r0/r1:Nat)*x1) y1 (y0-(r0/r1:Nat)*y1):=by
 have hx:=Dt (q:=r0/r1) rfl h.hx;have hy:=Dt (q:=r0/r1) rfl h.hy;have le: ∀{n B:Nat} {m:Nat},n*r1+m<=B->n<=B:=fun{n B m} g=>by
  have:=Nat.le_mul_of_pos_right n h1;omega
 refine⟨h.e1,?_,?_,hx,hy,h.bx1,le hx,h.by1,?_⟩
 ·have e0:=h.e0;have e1:=h.e1;have hd:=ik r0 r1;generalize r0/r1=q at*;generalize r0%r1=t at*;have:(r0:Int)=r1*q+t:=by rw[<-hd];simp
  rw[oM,oM];have e3:(a:Int)*(q*x1)=q*(a*x1):=by rw[<-lB,qy (a:Int),lB]
  have e4:(b:Int)*(q*y1)=q*(b*y1):=by rw[<-lB,qy (b:Int),lB]
  have e5:(q:Int)*(a*x1)+q*(b*y1)=r1*q:=by rw[<-lk,e1,qy]
  omega
 ·rw[<-h.g,j4 r0 r1,nf r1 r0,j4]
 ·have:=le hy;omega
theorem FY {X Y:Int} (h0:0<=X) (h:(a:Int)*X+b*Y=1):a*(X.natAbs%b)%b=1%b:=by
 obtain⟨n,rfl⟩:=Int.eq_ofNat_of_zero_le h0;rw[Int.natAbs_natCast,jw];have e:((a*n:Nat):Int)%b=(1:Int)%b:=by
  have:((a*n:Nat):Int)=1+b*(-Y):=by simp only[Int.natCast_mul,ni];omega
  rw[this,tK]
 exact_mod_cast e
theorem Mj {a m i j:Nat} (hi:i<m) (hj:j<m) (h1:a*i%m=1%m) (h2:a*j%m=1%m):i=j:=by
 have e1:i*(a*j)%m=i%m:=by rw[<-jw,h2,jw,dK]
 have e2:i*(a*j)%m=j%m:=by rw[<-cA,bU i a,<-jy,h1,jy,iv]
 rw[bw hi]at e1;rw[bw hj]at e2;omega
noncomputable def gH (a m:Nat):Nat:= @dite _ (∃i,i<m/\a*i%m=1%m) (Classical.propDecidable _) (fun h=>Classical.choose h) (fun _=>0)
theorem gI {a m i:Nat} (hi:i<m) (h:a*i%m=1%m):gH a m=i:=by
 have hx: ∃i,i<m/\a*i%m=1%m:=⟨i,hi,h⟩;unfold gH;rw[dif_pos hx];obtain⟨g1,g2⟩:=Classical.choose_spec hx;exact Mj g1 hi g2 h
theorem r9.fin (h:r9 a b g 0 x0 x1 y0 y1):g=Nat.gcd a b:=by
 have:=h.g;rwa[CO]at this
theorem r9.inv (h:r9 a b 1 0 x0 x1 y0 y1) (hb:0<b): ∀X:Int,X=(if x0<0 then x0+b else x0)->0<=X/\X<=b/\X.natAbs%b=gH a b:=by
 intro X hX;have b0:=h.bx0;have h0:0<=X:=by rw[hX];split<;>omega
 refine⟨h0,by rw[hX];split<;>omega,(gI (aP _ hb) ?_).symm⟩
 have e0:=h.e0
 by_cases hx:x0<0
 ·rw[ah hx]at hX;refine FY (Y:=y0-a) h0 ?_;rw[hX,lk,oM,qy (b:Int) a];omega
 ·rw[af hx]at hX;exact FY (Y:=y0) h0 (by rw[hX];omega)
def DP:Nat->Nat->Nat->Int->Int->Int->Int->Nat×Int×Int
 |0,r0,_,x0,_,y0,_=>(r0,x0,y0)
 |f+1,r0,r1,x0,x1,y0,y1=>if r1=0 then(r0,x0,y0)else DP f r1 (r0%r1) x1 (x0-(r0/r1:Nat)*x1) y1 (y0-(r0/r1:Nat)*y1)
theorem DQ: ∀{f r0 r1:Nat} {x0 x1 y0 y1:Int},r1<f->r9 a b r0 r1 x0 x1 y0 y1-> ∃x' y',r9 a b (DP f r0 r1 x0 x1 y0 y1).1 0 (DP f r0 r1 x0 x1 y0 y1).2.1 x' (DP f r0 r1 x0 x1 y0 y1).2.2 y'
 |0,_,_,_,_,_,_,h,_=>aM h (qz _)
 |f+1,r0,r1,x0,x1,y0,y1,h,hE=>by
  unfold DP;split
  ·rename_i h0;subst h0;exact⟨x1,y1,hE⟩
  ·rename_i h0;exact DQ (by have:=aP r0 (show 0<r1 by omega);omega) (hE.step (by omega))
structure Rt (a b g:Nat) (x y:Int):Prop where
 z:b=0->x=1/\y=0
 bx:0<b->x.natAbs<=b
 by':0<b->y.natAbs<=max a 1
 e:(a:Int)*x+b*y=g
 g:g=Nat.gcd a b
theorem Rt.base (a:Nat):Rt a 0 a 1 0:=⟨fun _=>⟨rfl,rfl⟩,fun h=>by omega,fun h=>by omega,by simp,by simp⟩
theorem Rt.step {x y:Int} (hb:0<b) (h:Rt b (a%b) g x y):Rt a b g y (x-(a/b:Nat)*y):=by
 have hd:=ik a b;have hg:g=Nat.gcd a b:=by rw[h.g,j4 a b,nf b a,j4]
 have he:=h.e;have e1:(a:Int)=b*(a/b:Nat)+(a%b:Nat):=by
  have:((b*(a/b)+a%b:Nat):Int)=(a:Int):=by rw[hd]
  rw[<-this];simp
 rcases jv (a%b)with h0|h0
 ·obtain⟨rfl,rfl⟩:=h.z h0;refine⟨by omega,by simp,fun _=>by simp;omega,?_,hg⟩
  simp only[Int.mul_zero,Int.sub_zero,Int.mul_one,Int.zero_add,Int.add_zero]at he⊢;exact he
 ·have bx:=h.bx h0;have by1:y.natAbs<=b:=by have:=h.by' h0;omega
  refine⟨by omega,fun _=>by1,fun _=> ?_,?_,hg⟩
  ·have h1:(x-(a/b:Nat)*y).natAbs<=x.natAbs+a/b*y.natAbs:=by
    have:=Int.natAbs_sub_le x ((a/b:Nat)*y)
    rwa[lj,Int.natAbs_natCast]at this
   have h2:=kS (a/b) by1;have h3:a/b*b=b*(a/b):=bU _ _;omega
  ·generalize a/b=q at*;generalize a%b=t at*;rw[oM,e1,Int.add_mul];have e3:(b:Int)*q*y=b*(q*y):=lB ..;omega
end Go.Dom
namespace Go.Proofs.Tryz
open Go Go.Dom
variable {x y:Int}
def zs (x:Int):Bool:=decide (x<0)
def zb (x:Int):Bytes:=bR x.natAbs
abbrev Z (x:Int):PV:= .agg [.b (zs x), .s (zb x)]
def dM:Nat:=340282366920938463463374607431768211456
theorem zY:dM<=dC:=by unfold dC dM;decide+kernel
theorem Ff:dM*dM<=dC:=by unfold dC dM;decide+kernel
theorem vB {n:Nat} (h:n<dC):aa (bR n)=true:=jY h
theorem mD (n:Nat):zb (n:Int)=bR n:=rfl
theorem mE (n:Nat):zs (n:Int)=false:=by simp[zs]
theorem uy (x:Int):num (zb x)=x.natAbs:=aY _
theorem VV (x:Int):(zb x==([]:Bytes))=decide (x=0):=by
 unfold zb;rw[dk];simp[gA]
theorem V1 (h:x.natAbs<dC):(aa (zb x)&& !(zs x&&zb x==[]))=true:=by
 rw[VV,show aa (zb x)=true from vB h]
 simp[zs];omega
theorem zmk (b:Bool) (n:Nat):(.agg [.b (b&& !(bR n==[])),N n]:PV)=Z (if b then-(n:Int)else n):=by
 by_cases h:n=0
 ·subst h;cases b<;>rfl
 ·have e:(bR n==([]:Bytes))=false:=pK h;cases b
  ·simp[Z,zs,zb]
  ·have:decide (-(n:Int)<0)=true:=aV oO;simp[Z,zs,zb,e,h];omega
theorem YI (x y:Int):(if(zs x !=zs y)then-((x.natAbs*y.natAbs:Nat):Int)else((x.natAbs*y.natAbs:Nat):Int))=x*y:=by
 rw[Int.natCast_mul];unfold zs
 by_cases h1:x<0<;>by_cases h2:y<0<;>simp only[h1,h2,decide_true,decide_false,o6,bO,ar]
 ·have e1:(x.natAbs:Int)= -x:=oO;have e2:(y.natAbs:Int)= -y:=oO;rw[e1,e2,Int.neg_mul_neg]
 ·have e1:(x.natAbs:Int)= -x:=oO;have e2:(y.natAbs:Int)=y:=oO;simp only[Bool.bne_false,az];rw[e1,e2,tB,Int.neg_neg]
 ·have e1:(x.natAbs:Int)=x:=oO;have e2:(y.natAbs:Int)= -y:=oO;simp only[Bool.false_bne,az];rw[e1,e2,ni,Int.neg_neg]
 ·have e1:(x.natAbs:Int)=x:=oO;have e2:(y.natAbs:Int)=y:=oO;rw[e1,e2]
theorem Sj (h:zs x=zs y):(if zs x then-((x.natAbs+y.natAbs:Nat):Int)else((x.natAbs+y.natAbs:Nat):Int))=x+y:=by
 unfold zs at*
 by_cases h1:x<0<;>by_cases h2:y<0<;>simp[h1,h2]at h⊢ <;>omega
theorem Ob (h:zs x≠zs y) (hl:y.natAbs<=x.natAbs):(if zs x then-((x.natAbs-y.natAbs:Nat):Int)else((x.natAbs-y.natAbs:Nat):Int))=x+y:=by
 unfold zs at*
 by_cases h1:x<0<;>by_cases h2:y<0<;>simp[h1,h2]at h⊢ <;>omega
theorem Sk (h:zs x≠zs y) (hl:x.natAbs<=y.natAbs):(if zs y then-((y.natAbs-x.natAbs:Nat):Int)else((y.natAbs-x.natAbs:Nat):Int))=x+y:=by
 rw[Int.add_comm];exact Ob (j7 h) hl
theorem YJ (y:Int):(if !zs y then-(y.natAbs:Int)else(y.natAbs:Int))= -y:=by
 unfold zs
 by_cases h:y<0<;>simp[h]<;>omega
theorem Od (n m:Nat):((n:Int)/(m:Int)=((n/m:Nat):Int))/\(((n:Int)%(m:Int)).toNat=n%m):=⟨rfl,rfl⟩
theorem Oc {n m:Nat} (hm:0<m) (h0:n%m=0):(-(n:Int))/(m:Int)= -((n/m:Nat):Int)/\((-(n:Int))%(m:Int)).toNat=0:=by
 have hd:=ik n m;have e: -(n:Int)=0+(m:Int)*(-((n/m:Nat):Int)):=by
  rw[ni,<-Int.natCast_mul];omega
 have hm':(m:Int)≠0:=oO;constructor
 ·rw[e,wZ _ _ hm'];simp
 ·rw[e,tK];simp
theorem Ks {n m:Nat} (hm:0<m) (h0:n%m≠0):(-(n:Int))/(m:Int)= -((n/m+1:Nat):Int)/\((-(n:Int))%(m:Int)).toNat=m-n%m:=by
 have hd:=ik n m;have hl:=aP n hm;generalize n%m=r at*;have e: -(n:Int)=((m-r:Nat):Int)+(m:Int)*(-((n/m+1:Nat):Int)):=by
  rw[ni,<-Int.natCast_mul,jz,dK];omega
 have hm':(m:Int)≠0:=oO;have h1:((m-r:Nat):Int)/(m:Int)=0:=wR oO oO;have h2:((m-r:Nat):Int)%(m:Int)=((m-r:Nat):Int):=Int.emod_eq_of_lt oO oO;constructor
 ·rw[e,wZ _ _ hm',h1,Int.zero_add]
 ·rw[e,tK,h2];omega
theorem fH {a b:Nat}:(0<=aZ a b)↔b<=a:=by unfold aZ;split<;>(try split)<;>omega
end Go.Proofs.Tryz
namespace Go.Dom
noncomputable def dw (m x:Nat) (ng:Bool) (e:Nat):Nat:=(if ng then gH x m else x)^e%m
def eg (m x:Nat):Prop:= ∃i,i<m/\x*i%m=1%m
theorem eg.inv {m x:Nat} (h:eg m x):gH x m<m/\x*gH x m%m=1%m:=by
 obtain⟨i,h1,h2⟩:=h;rw[gI h1 h2];exact⟨h1,h2⟩
theorem eg.Xd {m x:Nat} (h:eg m x) (hm:0<m):eg m (gH x m):=
 ⟨x%m,aP _ hm,by rw[jw,bU];exact h.inv.2⟩
theorem eg.pow {m x:Nat} (h:eg m x) (hm:0<m) (e:Nat):eg m (x^e%m)/\gH (x^e%m) m=gH x m^e%m:=by
 obtain⟨h1,h2⟩:=h.inv;have key:x^e%m*(gH x m^e%m)%m=1%m:=by
  rw[<-cC,<-qw,iR,h2,<-iR,qE]
 have hl:gH x m^e%m<m:=aP _ hm;exact⟨⟨_,hl,key⟩,gI hl key⟩
theorem eg.inv2 {m x:Nat} (h:eg m x) (hm:0<m):gH (gH x m) m=x%m:=
 gI (aP _ hm) (by rw[jw,bU];exact h.inv.2)
theorem eg.dw {m x:Nat} (h:eg m x) (hm:0<m) (ng:Bool) (e:Nat):eg m (Dom.dw m x ng e):=by
 unfold Dom.dw;cases ng
 ·exact(h.pow hm e).1
 ·exact((h.Xd hm).pow hm e).1
theorem eg.mul {m x y:Nat} (h:eg m x) (g:eg m y) (hm:0<m):eg m (x*y%m):=by
 obtain⟨i,h1,h2⟩:=h;obtain⟨j,g1,g2⟩:=g;refine⟨i*j%m,aP _ hm,?_⟩;rw[<-cC];have e:x*y*(i*j)=(x*i)*(y*j):=by
  rw[cA,cA];congr 1;rw[<-cA,bU y i,cA]
 rw[e,cC,h2,g2,<-cC,iv]
theorem mU (m x a b:Nat):(x^a%m)^b%m=x^(a*b)%m:=by rw[<-iR,<-jA]
theorem AJ {m x:Nat} (h:eg m x) (hm:0<m) (n1 n2:Bool) (a b:Nat):dw m (dw m x n1 a) n2 b=dw m x (n1 !=n2) (a*b):=by
 cases n1<;>cases n2
 ·simp only[dw,bO,ar,o6,mU]
 ·have:=(h.pow hm a).2;simp only[dw,bO,ar,az,this,mU,Bool.bne_true,cG]
 ·simp only[dw,bO,ar,az,mU,Bool.bne_false]
 ·have h1:=((h.Xd hm).pow hm a).2;rw[h.inv2 hm]at h1;simp only[dw,az,o6,bO,ar,h1];rw[mU,<-iR]
theorem nO (m x:Nat) (n:Bool):dw m x n 0=1%m:=by simp[dw]
theorem mZ {m x:Nat} (hm:0<m) (h:Nat.gcd x m=1):eg m x:=by
 have key: ∀(n a b:Nat),b<=n-> ∃X Y:Int,(a:Int)*X+b*Y=Nat.gcd a b:=by
  intro n
  induction n with
  |zero=>
   intro a b hb;obtain rfl:b=0:=by omega
   exact⟨1,0,by simp⟩
  |succ n ih=>
   intro a b hb;rcases jv b with rfl|h0
   ·exact⟨1,0,by simp⟩
   ·obtain⟨X,Y,e⟩:=ih b (a%b) (by have:=aP a h0;omega)
    refine⟨Y,X-(a/b:Nat)*Y,?_⟩;have hg:Nat.gcd b (a%b)=Nat.gcd a b:=by rw[j4 a b,nf b a,j4]
    rw[<-hg,<-e];have e1:(a:Int)=b*(a/b:Nat)+(a%b:Nat):=by
     have:((b*(a/b)+a%b:Nat):Int)=(a:Int):=by rw[ik]
     rw[<-this];simp
    generalize a/b=q at*;generalize a%b=t at*;rw[oM,e1,Int.add_mul];have e3:(b:Int)*q*Y=b*(q*Y):=lB ..;omega
 obtain⟨X,Y,e⟩:=key m x m (aD _);rw[h]at e;refine⟨(X%(m:Int)).toNat,?_,?_⟩
 ·have:=oW X (show(0:Int)<m by omega)
  have:=lC X (show(m:Int)≠0 by omega)
  omega
 ·have h0:=lC X (show(m:Int)≠0 by omega)
  have e2:((x*(X%(m:Int)).toNat:Nat):Int)%m=(1:Int)%m:=by
   rw[Int.natCast_mul,oN h0,Int.mul_emod,Int.emod_emod_of_dvd _ (Int.dvd_refl _),<-Int.mul_emod];have:(x:Int)*X=1+m*(-Y):=by rw[ni];simp at e;omega
   rw[this,tK]
  exact_mod_cast e2
end Go.Dom
namespace Go.Proofs.Tryz
open Go Go.Dom
variable {a b:Nat} {x y:Int}
theorem Ic (a:Bytes):aE 141 [.s a] (.tup [.s (if a.length<=128 then a else[]),E (if a.length<=128 then 0 else 5)]):=by
 refine eW call141 func141 ?_;repeat' first|simp only[go_sem,seval]|refine oE ?_|apply xX<;>intro hc
 ·have h: ¬a.length<=128:=oO;simp[h]
 ·have h:a.length<=128:=oO;simp[h]
theorem Ib (a b:Bytes):aE 60 [.s a, .s b] (.tup [.s (iC a b).1,E (iC a b).2]):=by
 by_cases hv:aa a=true/\aa b=true
 case neg=>
  refine eW call60 func60 ?_;repeat' first|simp only[go_sem,seval]|refine cP (aI _) ?_|refine oE ?_|apply xX<;>intro hc
  all_goals simp_all[iC]
 have la:=dD hv.1;have lb:=dD hv.2;have hp:=EG a b oO oO;refine eW call60 func60 ?_;repeat' first|simp only[go_sem,seval]|refine cP (aI _) ?_|refine cP hp ?_|refine cP (Ic _) ?_|refine oE ?_|apply xX<;>intro hc
 all_goals simp only[kZ,iC,hv.1,hv.2,cX,az]
 all_goals (split<;>simp_all)
theorem Ij (a b:Bytes):aE 275 [.s a, .s b] (.tup [.s (rM a b).1,E (rM a b).2]):=by
 by_cases hv:aa a=true/\aa b=true
 case neg=>
  refine eW call275 func275 ?_;repeat' first|simp only[go_sem,seval]|refine cP (aI _) ?_|refine oE ?_|apply xX<;>intro hc
  all_goals simp_all[rM]
 have la:=dD hv.1;have lb:=dD hv.2;have ho:=fZ (bG hv.1) (bG hv.2) oO oO;have v1:=aI a;have v2:=aI b;rw[hv.1]at v1;rw[hv.2]at v2;refine eW call275 func275 ?_;repeat' first|simp only[go_sem,seval]|refine cP v1 ?_|refine cP v2 ?_|refine cP ho ?_|(refine gp (lL a b oO oO (by rw[fy]at hc;omega)) rfl ?_)|refine oE ?_|apply xX<;>intro hc
 ·rw[fy]at hc;simp[rM,hv.1,hv.2,show¬num b<=num a by omega]
 ·rw[fy]at hc;simp[rM,hv.1,hv.2,show num b<=num a by omega]
theorem Ig (a b:Bytes):aE 228 [.s a, .s b] (.tup [.s (ny a b).1,E (ny a b).2]):=by
 by_cases hv:aa a=true/\aa b=true
 case neg=>
  refine eW call228 func228 ?_;repeat' first|simp only[go_sem,seval]|refine cP (aI _) ?_|refine oE ?_|apply xX<;>intro hc
  all_goals simp_all[ny]
 have la:=dD hv.1;have lb:=dD hv.2;have hp:=qm a b oO oO;refine eW call228 func228 ?_;repeat' first|simp only[go_sem,seval]|refine cP (aI _) ?_|refine cP hp ?_|refine cP (Ic _) ?_|refine oE ?_|apply xX<;>intro hc
 all_goals simp only[kZ,ny,hv.1,hv.2,cX,az]
 all_goals (split<;>simp_all)
theorem Gq (a b:Bytes):aE 448 [.s a, .s b] (.tup [.s (sC a b).1, .s (sC a b).2.1,E (sC a b).2.2]):=by
 by_cases hv:aa a=true/\aa b=true
 case neg=>
  refine eW call448 func448 ?_;repeat' first|simp only[go_sem,seval]|refine cP (aI _) ?_|refine oE ?_|apply xX<;>intro hc
  all_goals simp_all[sC]
 have la:=dD hv.1;have lb:=dD hv.2
 by_cases h0:b=[]
 ·subst h0;refine eW call448 func448 ?_;repeat' first|simp only[go_sem,seval,nn]|refine cP (aI _) ?_|refine oE ?_|apply xX<;>intro hc
  all_goals simp_all[sC]
 have hp:=mR (bG hv.2) h0;have ho:=pQ (bG hv.1) (bG hv.2) hp oO oO;refine eW call448 func448 ?_;repeat' first|simp only[go_sem,seval]|refine cP (aI _) ?_|refine cP ho ?_|refine oE ?_|apply xX<;>intro hc
 all_goals simp_all[sC]
theorem uH (a:Bytes):aE 365 [.s a] (.tup [.i .u64 (if aa a&&decide (a.length<=8)then num a else 0), .b (aa a&&decide (a.length<=8))]):=by
 by_cases h:aa a=true/\a.length<=8
 ·have hu:=sQ a h.2;refine eW call365 func365 ?_;repeat' first|simp only[go_sem,seval]|refine cP (aI _) ?_|refine cP hu ?_|refine oE ?_|apply xX<;>intro hc
  all_goals simp_all
 ·refine eW call365 func365 ?_;repeat' first|simp only[go_sem,seval]|refine cP (aI _) ?_|refine oE ?_|apply xX<;>intro hc
  all_goals simp_all
  all_goals omega
theorem J7 {a:Bytes} (h:aa a=true):aE 232 [.s a] (E (cZ (num a))):=by
 have la:=dD h;have hb:=yO (bG h) oO;refine eW call232 func232 ?_;repeat' first|simp only[go_sem,seval]|refine cP (aI _) ?_|refine cP hb ?_|refine oE ?_|apply xX<;>intro hc
 all_goals simp_all
theorem Cc {a:Bytes} (h:aa a=true) (i:Nat) (hi:i<1099511627776):aE 225 [.s a,E i] (.b ((num a).testBit i)):=by
 have la:=dD h;have hb:=yO (bG h) oO;have ho:=Ih a i oO hi;have hv:=aI a;rw[h]at hv;have hlt: ¬i<cZ (num a)->(num a).testBit i=false:=by
  intro g;rw[kG,ir (b9 (sr _) (cM oC oO))];rfl
 generalize (num a).testBit i=tb at*;refine eW call225 func225 ?_;repeat' first|simp only[go_sem,seval]|refine cP hv ?_|refine cP hb ?_|refine cP ho ?_|refine oE ?_|apply xX<;>intro hc
 all_goals simp_all
 all_goals (first|omega|skip)
theorem EA (ha:a<dC) (hb:b<dC):aE 234 [N a,N b] (N (Nat.gcd a b)):=by
 have hlim: ∀{x:Nat},x<dC->(bR x).length<1048576:=fun h=>by have:=kZ.2 h;omega
 refine eW call234 func234 ?_;simp only[go_sem,seval];refine ak (α:=Nat×Nat) (fun x=>x.2) (fun x=>⟨[(0, .v (N x.1)),(1, .v (N x.2))],[],_⟩) (fun x=>x.1<dC/\x.2<dC/\Nat.gcd x.1 x.2=Nat.gcd a b) (a,b) (fun _=>aD _) ⟨ha,hb,rfl⟩ ?_ ?_
 ·exact lE
 ·rintro⟨x,y⟩ ⟨hx,hy,hg⟩ R hR;simp only at hx hy hg
  by_cases h0:y=0
  ·subst h0;refine eC @zP ?_;rw[<-hg,CO]
  ·have e:=pK h0;have hd:=pQ (fF x) (fF y) (by rw[aY];omega) (hlim hx) (hlim hy)
   rw[aY,aY]at hd;refine jd @e @hd ?_;have hm:x%y<y:=aP _ oO;refine hR (y,x%y) ⟨hy,by show x%y< _;omega,?_⟩ hm _ ?_
   ·show Nat.gcd y (x%y)= _;rw[<-hg,j4 x y,nf y x,j4]
   ·exact lE
theorem QK {a b:Bytes} (ha:aa a=true) (hb:aa b=true):aE 445 [.s a, .s b] (.tup [N (Nat.gcd (num a) (num b)),E 0]):=by
 have hc1:=EA (ov ha) (ov hb);have e1:N (num a)= .s a:=congrArg PV.s (fm ha);have e2:N (num b)= .s b:=congrArg PV.s (fm hb);rw[e1,e2]at hc1;refine eW call445 func445 ?_;repeat' first|simp only[go_sem,seval]|refine cP (aI _) ?_|refine cP hc1 ?_|refine oE ?_|apply xX<;>intro hc
 all_goals simp_all
theorem RV (h:a+b<dC):aE 60 [N a,N b] (.tup [N (a+b),E 0]):=by
 have:=Ib (bR a) (bR b);simp only[iC,vB (show a<dC by omega),vB (show b<dC by omega),cX,az,aY,h]at this
 exact this
theorem Nc (h:b<=a) (ha:a<dC):aE 275 [N a,N b] (.tup [N (a-b),E 0]):=by
 have:=Ij (bR a) (bR b);simp only[rM,vB ha,vB (show b<dC by omega),cX,az,aY,h]at this
 exact this
theorem RY (h:a*b<dC) (ha:a<dC) (hb:b<dC):aE 228 [N a,N b] (.tup [N (a*b),E 0]):=by
 have:=Ig (bR a) (bR b);simp only[ny,vB ha,vB hb,cX,az,aY,h]at this;exact this
theorem pP (ha:a<dC) (hb:b<dC) (h0:0<b):aE 448 [N a,N b] (.tup [N (a/b),N (a%b),E 0]):=by
 have:=Gq (bR a) (bR b);have e:bR b≠[]:=fun h=>by rw[gA]at h;omega
 simpa only[sC,vB ha,vB hb,cX,az,e,ar,aY]using this
theorem XE (ha:a<dC) (hb:b<dC):aE 46 [N a,N b] (E (aZ a b)):=by
 have:=jq (bR a) (bR b);simpa only[vB ha,vB hb,cX,az,aY]using this
theorem jQ (n:Bool) (a:Bytes):aE 114 [.agg [.b n, .s a]] (.b (aa a&& !(n&&a==[]))):=by
 have hv:=aI a;refine eW call114 func114 ?_;exact Om @hv
theorem ED (n:Bool) (a:Bytes):aE 113 [.b n, .s a] (.agg [.b (n&& !(a==[])), .s a]):=by
 refine eW call113 func113 ?_;exact YL
theorem mz (b:Bool) (n:Nat) {z:Int} (h:(if b then-(n:Int)else n)=z):aE 113 [.b b,N n] (Z z):=by
 have:=ED b (bR n);rw[zmk,h]at this;exact this
theorem iI (h:x.natAbs<dC):aE 114 [Z x] (.b true):=by
 have:=jQ (zs x) (zb x)
 rwa[V1 h]at this
theorem yP {n:Nat} (h:n<dC):aE 48 [N n] (Z n):=by
 have hv:=aI (bR n);rw[vB h]at hv;have hm:=mz false n rfl;refine eW call48 func48 ?_;repeat' first|simp only[go_sem,seval,Z]|refine cP hv ?_|refine cP hm ?_|refine oE ?_|apply xX<;>intro hc
theorem Vq:aE 129 [E 1] (Z 1):=by
 have h1:=jS 1 oC;have hm:=mz false 1 rfl;refine eW call129 func129 ?_;repeat' first|simp only[go_sem,seval,Z]|refine cP h1 ?_|refine cP hm ?_|refine oE ?_|apply xX<;>intro hc
theorem ZO:aE 129 [E 0] (Z 0):=by
 have h1:=jS 0 oC;have hm:=mz false 0 rfl;refine eW call129 func129 ?_;repeat' first|simp only[go_sem,seval,Z]|refine cP h1 ?_|refine cP hm ?_|refine oE ?_|apply xX<;>intro hc
theorem XH (h:y.natAbs<dC):aE 455 [Z y] (Z (-y)):=by
 have hv:=iI h;have hm:=mz (!zs y) y.natAbs (YJ y);refine eW call455 func455 ?_;repeat' first|simp only[go_sem,seval,Z]|refine cP hv ?_|refine cP hm ?_|refine oE ?_|apply xX<;>intro hc
theorem Vn (hx:x.natAbs<dC) (hy:y.natAbs<dC) (h:x.natAbs*y.natAbs<dC):aE 374 [Z x,Z y] (.tup [Z (x*y),E 0]):=by
 have v1:=iI hx;have v2:=iI hy;have hm:=RY (a:=x.natAbs) (b:=y.natAbs) h hx hy;have hk:=mz (zs x !=zs y) (x.natAbs*y.natAbs) (YI x y);refine eW call374 func374 ?_;repeat' first|simp only[go_sem,seval,Z]|refine cP v1 ?_|refine cP v2 ?_|refine cP hm ?_|refine cP hk ?_|refine oE ?_|apply xX<;>intro hc
theorem M9 (hx:x.natAbs<dM) (hy:y.natAbs<dM):aE 374 [Z x,Z y] (.tup [Z (x*y),E 0]):=
 have hw:=zY
 Vn oO oO (b9 (fE hx hy) Ff)
theorem MZ (hlim:x.natAbs+y.natAbs<dC):aE 454 [Z x,Z y] (.tup [Z (x+y),E 0]):=by
 have v1:=iI (x:=x) oO;have v2:=iI (x:=y) oO
 by_cases hs:zs x=zs y
 ·have ha:=RV hlim;have hk:=mz (zs x) (x.natAbs+y.natAbs) (Sj hs);have hb: ∀ _:True,(zs x==zs y)=true:=fun _=>by rw[hs];simp
  clear hs hlim;refine eW call454 func454 ?_;repeat' first|simp only[go_sem,seval,Z,hb oT]|refine cP v1 ?_|refine cP v2 ?_|refine cP ha ?_|refine cP hk ?_|refine oE ?_|apply xX<;>intro hc
 have hb: ∀ _:True,(zs x==zs y)=false:=fun _=>by simpa using hs
 have hcm:=XE (a:=x.natAbs) (b:=y.natAbs) oO oO
 by_cases hl:y.natAbs<=x.natAbs
 ·have hd:=Nc hl oO;have hk:=mz (zs x) (x.natAbs-y.natAbs) (Ob hs hl);have hg: ∀ _:True,decide (aZ x.natAbs y.natAbs>=0)=true:=fun _=>aV (fH.2 hl)
  generalize aZ x.natAbs y.natAbs=cm at*;clear hs hlim;refine eW call454 func454 ?_;repeat' first|simp only[go_sem,seval,Z,hb oT,hg oT]|refine cP v1 ?_|refine cP v2 ?_|refine cP hcm ?_|refine cP hd ?_|refine cP hk ?_|refine oE ?_|apply xX<;>intro hc
 ·have hd:=Nc (a:=y.natAbs) (b:=x.natAbs) oO oO;have hk:=mz (zs y) (y.natAbs-x.natAbs) (Sk hs oO);have hg: ∀ _:True,decide (aZ x.natAbs y.natAbs>=0)=false:=fun _=>bL (fun h=>hl (fH.1 h))
  generalize aZ x.natAbs y.natAbs=cm at*;clear hs hlim;refine eW call454 func454 ?_;repeat' first|simp only[go_sem,seval,Z,hb oT,hg oT]|refine cP v1 ?_|refine cP v2 ?_|refine cP hcm ?_|refine cP hd ?_|refine cP hk ?_|refine oE ?_|apply xX<;>intro hc
theorem Vl (hx:x.natAbs<dM) (hy:y.natAbs<dM):aE 454 [Z x,Z y] (.tup [Z (x+y),E 0]):=
 MZ (b9 (show _<dM*dM by unfold dM at*;omega) Ff)
theorem Vo (hlim:x.natAbs+y.natAbs<dC):aE 375 [Z x,Z y] (.tup [Z (x-y),E 0]):=by
 have v1:=iI (x:=x) oO;have v2:=iI (x:=y) oO;have hn:=XH (y:=y) oO;have ha:=MZ (x:=x) (y:= -y) oO;rw[<-Int.sub_eq_add_neg]at ha;refine eW call375 func375 ?_;repeat' first|simp only[go_sem,seval,Z]|refine cP v1 ?_|refine cP v2 ?_|refine cP hn ?_|refine cP ha ?_|refine oE ?_|apply xX<;>intro hc
theorem Vp (hx:x.natAbs<dM) (hy:y.natAbs<dM):aE 375 [Z x,Z y] (.tup [Z (x-y),E 0]):=
 Vo (b9 (show _<dM*dM by unfold dM at*;omega) Ff)
theorem zp:(2^64)<=dM:=by decide
theorem nW:(2^64)<=dC:=by unfold dC;decide+kernel
theorem AU {m:Nat} (hx:x.natAbs<dM) (hm:m<dM) (h0:0<m):aE 503 [Z x,Z m] (.tup [Z (x/m),N (x%m).toNat,E 0]):=by
 have hw:=zY;have v1:=iI (x:=x) oO;have v2:=iI (x:=(m:Int)) oO;have hd:=pP (a:=x.natAbs) (b:=m) oO oO h0;have e0:(bR m==([]:Bytes))=false:=pK oO;have hl:=aP x.natAbs h0;have hq:x.natAbs/m<=x.natAbs:=eT _ _;have h1:=jS 1 oC
 by_cases hs:x<0
 ·have hz:zs x=true:=by simp[zs,hs]
  have hn:x= -(x.natAbs:Int):=oO;simp only[Z,hz]at v1;simp only[Z,mE,mD]at v2
  by_cases hr:x.natAbs%m=0
  ·obtain⟨g1,g2⟩:=Oc h0 hr;rw[<-hn]at g1 g2;have hk:=mz true (x.natAbs/m) (z:=x/m) (by rw[g1];rfl)
   have e1:(bR (x.natAbs%m)==([]:Bytes))=true:=by rw[hr];rfl
   rw[g2,<-hr];generalize x/(m:Int)=q at*;clear g1 g2 hn hr hw;refine eW call503 func503 ?_;repeat' first|simp only[go_sem,seval,Z,mE,mD,hz,e0,e1]|refine cP v1 ?_|refine cP v2 ?_|refine cP hd ?_|refine cP hk ?_|refine oE ?_|apply xX<;>intro hc
  ·obtain⟨g1,g2⟩:=Ks h0 hr;rw[<-hn]at g1 g2;have hk:=mz true (x.natAbs/m+1) (z:=x/m) (by rw[g1];rfl)
   have e1:(bR (x.natAbs%m)==([]:Bytes))=false:=pK hr;have ha:=RV (a:=x.natAbs/m) (b:=1) (by have:=Ff;unfold dM at*;omega)
   have hb:=Nc (a:=m) (b:=x.natAbs%m) oO oO;rw[g2];generalize x/(m:Int)=q at*;clear g1 g2 hn hr hw;refine eW call503 func503 ?_;repeat' first|simp only[go_sem,seval,Z,mE,mD,hz,e0,e1]|refine cP v1 ?_|refine cP v2 ?_|refine cP hd ?_|refine cP h1 ?_|refine cP ha ?_|refine cP hb ?_|refine cP hk ?_|refine oE ?_|apply xX<;>intro hc
 ·have hz:zs x=false:=by simp[zs,hs]
  have hn:x=(x.natAbs:Int):=oO;simp only[Z,hz]at v1;simp only[Z,mE,mD]at v2;obtain⟨g1,g2⟩:=Od x.natAbs m;rw[<-hn]at g1 g2;have hk:=mz false (x.natAbs/m) (z:=x/m) (by rw[g1];rfl)
  rw[g2];generalize x/(m:Int)=q at*;clear g1 g2 hn hw;refine eW call503 func503 ?_;repeat' first|simp only[go_sem,seval,Z,mE,mD,hz,e0]|refine cP v1 ?_|refine cP v2 ?_|refine cP hd ?_|refine cP hk ?_|refine oE ?_|apply xX<;>intro hc
theorem Vm {m:Nat} (hx:x.natAbs<dM) (hm:m<dM) (h0:0<m):aE 450 [Z x,N m] (.tup [N (x%m).toNat,E 0]):=by
 have hw:=zY;have v1:=iI (x:=x) oO;have v2:=aI (bR m);rw[vB (show m<dC by omega)]at v2
 have hf:=yP (n:=m) oO;have hd:=AU hx hm h0;refine eW call450 func450 ?_;repeat' first|simp only[go_sem,seval,Z]|refine cP v1 ?_|refine cP v2 ?_|refine cP hf ?_|refine cP hd ?_|refine oE ?_|apply xX<;>intro hc
theorem Gp: ∀(n a b:Nat),b<=n->a<(2^64)->b<(2^64)-> ∃g x y,Rt a b g x y/\aE 502 [N a,N b] (.tup [N g,Z x,Z y]):=by
 intro n
 induction n with
 |zero=>
  intro a b hn ha hb;obtain rfl:b=0:=oO;refine⟨a,1,0,Rt.base a,?_⟩;have h1:=Vq;have h0:=ZO;refine eW call502 func502 ?_;repeat' first|simp only[go_sem,seval,zP,Z]|refine cP h1 ?_|refine cP h0 ?_|refine oE ?_|apply xX<;>intro hc
 |succ n ih=>
  intro a b hn ha hb
  by_cases hb0:b=0
  ·subst hb0;exact ih a 0 (aR _) ha hb
  have hpos:0<b:=oO;have hml:=aP a hpos;obtain⟨g,x,y,hz,he⟩:=ih b (a%b) oO hb oO;have hst:=Rt.step hpos hz;refine⟨g,y,_,hst,?_⟩;have hq:a/b<=a:=eT _ _;have w1:=zp;have w2:=nW;have by1:=hst.bx hpos;have bx1:x.natAbs<=b:=by
   rcases jv (a%b)with h0|h0
   ·obtain⟨rfl,-⟩:=hz.z h0;exact hpos
   ·have:=hz.bx h0;omega
  have hf:=yP (n:=a/b) oO;have hm:=M9 (x:=((a/b:Nat):Int)) (y:=y) (by rw[Int.natAbs_natCast];omega) oO
  have hpb:(((a/b:Nat):Int)*y).natAbs<dM:=by
   rw[lj,Int.natAbs_natCast];have:a/b*y.natAbs<=a/b*b:=kS _ by1;have h2:a/b*b<=a:=qv a b;omega
  have hs:=Vp (x:=x) (y:=((a/b:Nat):Int)*y) oO hpb;have hd:=pP (a:=a) (b:=b) oO oO hpos;have e0:=pK hb0;generalize x-((a/b:Nat):Int)*y=u at*;generalize ((a/b:Nat):Int)*y=v at*;clear hst hz hpb by1 bx1 hq ih;refine eW call502 func502 ?_;repeat' first|simp only[go_sem,seval,e0,Z,mE,mD]|refine cP hd ?_|refine cP he ?_|refine cP hf ?_|refine cP hm ?_|refine cP hs ?_|refine oE ?_|apply xX<;>intro hc
theorem Cd (ha:a<(2^64)) (hb:b<(2^64)) (h0:0<b): ∃X Y:Int,(Nat.gcd a b=1->0<=X/\X.natAbs%b=gH a b)/\X.natAbs<(2^64)/\aE 449 [N a,N b] (.tup [N (Nat.gcd a b),Z X,Z Y,E 0]):=by
 obtain⟨g,x,y,hz,he⟩:=Gp b a b (aD _) ha hb;have hg:=hz.g;have hgp:0<g:=by rw[hg];exact Nat.gcd_pos_of_pos_right _ h0
 have hgb:g<=b:=by rw[hg];exact De _ h0
 have hx:=hz.bx h0;have hy:=hz.by' h0
 have w1:=zp;have w2:=nW;have hm1:b/g<=b:=eT _ _;have hk1:a/g<=a:=eT _ _;have hmp:0<b/g:=Nat.div_pos hgb hgp;have v1:=aI (bR a);have v2:=aI (bR b);rw[vB (show a<dC by omega)]at v1
 rw[vB (show b<dC by omega)]at v2
 have e0:(bR b==([]:Bytes))=false:=pK oO;have d1:=pP (a:=b) (b:=g) oO oO hgp;have d2:=pP (a:=a) (b:=g) oO oO hgp;have f1:=yP (n:=b/g) oO;have f2:=yP (n:=a/g) oO;have dm:=AU (x:=x) (m:=b/g) oO oO hmp;obtain⟨q,hq⟩: ∃q,q=x/((b/g:Nat):Int):=⟨_,rfl⟩;obtain⟨r,hr⟩: ∃r,r=(x%((b/g:Nat):Int)).toNat:=⟨_,rfl⟩;have hrl:r<b/g:=by
  have h1:=oW x (show(0:Int)<((b/g:Nat):Int) by omega)
  omega
 have hqb:q.natAbs<=x.natAbs+1:=by
  have h1:=lC x (show((b/g:Nat):Int)≠0 by omega)
  have h2:=nh x ((b/g:Nat):Int);rw[<-hq]at h2;have h3:(((b/g:Nat):Int)*q).natAbs=b/g*q.natAbs:=by rw[lj,Int.natAbs_natCast]
  have h4:q.natAbs<=b/g*q.natAbs:=CH _ hmp
  by_cases hq0:q.natAbs<=1
  ·omega
  ·have h5:b/g+q.natAbs<=b/g*q.natAbs+1:=by
    obtain⟨u,hu⟩: ∃u,b/g=u+1:=⟨b/g-1,oO⟩;obtain⟨v,hv⟩: ∃v,q.natAbs=v+1:=⟨q.natAbs-1,oO⟩;rw[hu,hv,dc,jz];omega
   omega
 have mk:=M9 (x:=q) (y:=((a/g:Nat):Int)) (by unfold dM;omega) (by rw[Int.natAbs_natCast];unfold dM;omega)
 have hpk:(q*((a/g:Nat):Int)).natAbs<dM:=by
  rw[lj,Int.natAbs_natCast];have:=j9 (show q.natAbs<=(2^64) by omega) (show a/g<=(2^64)-1 by omega)
  unfold dM;omega
 have ad:=Vl (x:=y) (y:=q*((a/g:Nat):Int)) (by unfold dM;omega) hpk
 have fr:=yP (n:=r) oO;refine⟨(r:Int),y+q*((a/g:Nat):Int),?_,oO,?_⟩
 ·intro h1;have g1:g=1:=by rw[hg];exact h1
  refine⟨oO,(gI (aP _ h0) ?_).symm⟩;have he1:=hz.e;rw[g1]at hr he1;rw[iq]at hr;have hnn:=lC x (show(b:Int)≠0 by omega)
  have:=FY (a:=a) (b:=b) (X:=x%(b:Int)) (Y:=y+a*(x/(b:Int))) hnn (by
   have h2:=nh x (b:Int);have h3:x%(b:Int)=x-b*(x/(b:Int)):=oO;rw[h3,oM,lk];have h4:(a:Int)*(b*(x/(b:Int)))=b*(a*(x/(b:Int))):=by rw[<-lB,qy (a:Int),lB]
   simp only[Int.natCast_one]at he1;omega)
  have e5:(r:Int).natAbs=(x%(b:Int)).natAbs:=by rw[hr];omega
  rw[e5];exact this
 ·rw[<-hg];rw[<-hq,<-hr]at dm;generalize q*((a/g:Nat):Int)=u at*;generalize y+u=v at*;clear hz hx hy hpk hqb hrl hq hr hmp hm1 hk1 hgp hgb hg;refine eW call449 func449 ?_;repeat' first|simp only[go_sem,seval,e0,Z,mE,mD]|refine cP v1 ?_|refine cP v2 ?_|refine cP he ?_|refine cP d1 ?_|refine cP d2 ?_|refine cP f1 ?_|refine cP f2 ?_|refine cP dm ?_|refine cP mk ?_|refine cP ad ?_|refine cP fr ?_|refine oE ?_|apply xX<;>intro hc
theorem sP {a m:Nat} (ha:a<dC) (hm:m<dC) (h0:0<m):aE 366 [N a,N m] (N (a%m)):=by
 have hd:=pP ha hm h0;refine eW call366 func366 ?_;exact z1 @hd
theorem XD (a m:Bytes):aE 235 [.sl [.s a, .s m]] (E (rm [a] m)):=by
 have va:=aI a;have vm:=aI m;refine eW call235 func235 ?_;repeat' first|simp only[go_sem,seval,gg,gi]|refine cP va ?_|refine cP vm ?_|(refine aj ?_)|refine oE ?_|apply xX<;>intro hc
 all_goals simp_all[rm]
theorem RX (a b m:Bytes):aE 235 [.sl [.s a, .s b, .s m]] (E (rm [a,b] m)):=by
 have va:=aI a;have vb:=aI b;have vm:=aI m;refine eW call235 func235 ?_;repeat' first|simp only[go_sem,seval,gg,gi]|refine cP va ?_|refine cP vb ?_|refine cP vm ?_|(refine aj ?_)|refine oE ?_|apply xX<;>intro hc
 all_goals simp_all[rm]
theorem Ch {a b m:Nat} (ha:a<(2^64)) (hb:b<(2^64)) (hm:m<(2^64)) (h0:0<m):aE 236 [N a,N b,N m] (N (a*b%m)):=by
 have w2:=nW;have hs:=uH (bR m);rw[vB (show m<dC by omega),aV (lN hm),aY]at hs
 have d1:=sP (a:=a) (m:=m) oO oO h0;have d2:=sP (a:=b) (m:=m) oO oO h0;have l1:=aP a h0;have l2:=aP b h0;have s1:=uH (bR (a%m));rw[vB (show a%m<dC by omega),aV (lN (show a%m<(2^64) by omega)),aY]at s1
 have s2:=uH (bR (b%m));rw[vB (show b%m<dC by omega),aV (lN (show b%m<(2^64) by omega)),aY]at s2
 have hmul:a%m*(b%m)<(2^64)*(2^64):=fE oO oO;have hlm:(2^64)*(2^64)<=dC:=by unfold dC;decide+kernel
 have hp:=RY (a:=a%m) (b:=b%m) oO oO oO;have d3:=sP (a:=a%m*(b%m)) (m:=m) oO oO h0;rw[<-cC]at d3;have hl3:=aP (a*b) h0
 by_cases hsm:m<2147483648
 ·have ho:=jS (a*b%m) oO;have hlt:a%m*(b%m)<(2^64):=by
   have:a%m*(b%m)<2147483648*2147483648:=fE oO oO;omega
  have hw: ∀ _:True,IntKind.u64.wrap (((a%m:Nat):Int)*((b%m:Nat):Int))=((a%m*(b%m):Nat):Int):=fun _=>by
   rw[<-Int.natCast_mul,IntWalk.u64_in _ oO]
  have hmm: ∀ _:True,((a%m*(b%m):Nat):Int).tmod (m:Int)=((a*b%m:Nat):Int):=fun _=>by
   rw[cC];rfl
  clear hp d3 hmul hlm;generalize a%m=u at*;generalize b%m=v at*;refine eW call236 func236 ?_;repeat' first|simp only[go_sem,seval,az,hw oT,hmm oT]|refine cP hs ?_|refine cP d1 ?_|refine cP d2 ?_|refine cP s1 ?_|refine cP s2 ?_|refine cP ho ?_|refine oE ?_|apply xX<;>intro hc
 ·clear hmul hlm;refine eW call236 func236 ?_;repeat' first|simp only[go_sem,seval,az]|refine cP hs ?_|refine cP d1 ?_|refine cP d2 ?_|refine cP hp ?_|refine cP d3 ?_|refine oE ?_|apply xX<;>intro hc
theorem XG {a b m:Nat} (ha:a<(2^64)) (hb:b<(2^64)) (hm:m<(2^64)) (h0:0<m):aE 116 [N a,N b,N m] (.tup [N (a*b%m),E 0]):=by
 have hc:=RX (bR a) (bR b) (bR m);rw[DG ha (vN hb) hm h0]at hc;have ht:=Ch ha hb hm h0;refine eW call116 func116 ?_;exact z2 @hc @ht
theorem uF {a m:Nat} {e:Bytes} (ha:a<(2^64)) (he:aa e=true) (hm:m<(2^64)) (h0:0<m):aE 368 [N a, .s e,N m] (N (a^num e%m)):=by
 have w2:=nW;have ho:=jS 1 oC;have d1:=sP (a:=1) (m:=m) oO oO h0;have hb:=J7 he;have hbi:=fun i hi=>Cc he i hi
 obtain⟨n,hn⟩: ∃n,n=num e:=⟨_,rfl⟩;have hbl:cZ n<1000000:=by
  have h1:n<2^1024:=by
   rw[hn];refine b9 (ct e) ?_;have le:=dD he;exact fQ (cM oC le) (by decide+kernel)
  by_cases hz:n=0
  ·rw[hz];decide
  ·obtain⟨g1,g2⟩:=sk hz;have:=(qF (by decide:1<2)).1 (eu g1 h1)
   omega
 rw[<-hn]at hb hbi⊢;have hb2:n/2^cZ n=0:=ir (sr n);clear hn;refine eW call368 func368 ?_;repeat' first|simp only[go_sem,seval]|refine cP ho ?_|refine cP d1 ?_|refine cP hb ?_|refine oE ?_|apply xX<;>intro hc
 refine ak (α:=Nat) (fun k=>k) (fun k=>⟨[(0, .v (N a)),(1, .v (.s e)),(2, .v (N m)),(7, .v (N (a^(n/2^k)%m))),(8, .v (.i .i64 ((k:Int)-1)))],[],_⟩) (fun k=>k<=cZ n) (cZ n) (fun _=>aD _) (aD _) ?_ ?_
 ·(refine AS.Le.of (by first|decide|omega) ?_ ?_<;>simp[dA,dz,aS,aB,AV.bd,AV.bd.bdL,u8,aq,au,aA])
  rw[hb2,Nat.pow_zero]
 ·intro k hk R hR
  cases k with
  |zero=>
   refine vP ?_;rw[iq]
  |succ k=>
   obtain⟨x,hx⟩: ∃x,x=a^(n/2^(k+1))%m:=⟨_,rfl⟩;have hxm:x<m:=by rw[hx];exact aP _ h0
   have hxx:x*x%m<m:=aP _ h0;have t1:=Ch (a:=x) (b:=x) oO oO hm h0;have t2:=Ch (a:=x*x%m) (b:=a) oO ha hm h0;have hbit:=hbi k oO;rw[kG]at hbit;have hdd:=D9 n k;have hw0: ∀ _:True,((k+1:Nat):Int)-1=(k:Int):=fun _=>oO
   have hge0: ∀ _:True,decide ((k:Int)>=0)=true:=fun _=>by simp
   rw[<-hx];repeat' first|simp only[go_sem,seval,hw0 oT,hge0 oT]|refine cP t1 ?_|refine cP t2 ?_|refine cP hbit ?_|refine oE ?_|apply xX<;>intro hc
   ·have ez:x*x%m*a%m=a^(n/2^k)%m:=by
     have e3:x*x%m=a^(n/2^(k+1))*a^(n/2^(k+1))%m:=by rw[hx,<-cC]
     rw[e3,jy,<-cY,<-Nat.pow_succ];congr 2;omega
    refine hR k oO oO _ ?_;rw[<-ez];exact lE
   ·have ez:x*x%m=a^(n/2^k)%m:=by
     rw[hx,<-cC,<-cY];congr 2;omega
    refine hR k oO oO _ ?_;rw[<-ez];exact lE
theorem XF {a m:Nat} {e:Bytes} (ha:a<(2^64)) (he:aa e=true) (hm:m<(2^64)) (h0:0<m):aE 364 [N a, .s e,N m] (.tup [N (a^num e%m),E 0]):=by
 have hc:=RX (bR a) e (bR m);rw[DG ha he hm h0]at hc;have hr:=uF ha he hm h0;refine eW call364 func364 ?_;exact z2 @hc @hr
theorem EB {a m:Nat} (ha:a<(2^64)) (hm:m<(2^64)) (h0:0<m) (hg:Nat.gcd a m=1):aE 367 [N a,N m] (.tup [N (gH a m),E 0]):=by
 have w1:=zp;have w2:=nW;have hc:=XD (bR a) (bR m);rw[Ly ha hm h0]at hc;have hd:=sP (a:=a) (m:=m) oO oO h0;have hl:=aP a h0;have hg':Nat.gcd (a%m) m=1:=by rw[<-hg,<-nf,j4]
 obtain⟨X,Y,h1,h2,h3⟩:=Cd (a:=a%m) (b:=m) oO hm h0;obtain⟨h4,h5⟩:=h1 hg';rw[hg']at h3;have ho:=jS 1 oC;have hi:=Vm (x:=X) (m:=m) oO oO h0;have hX:(X%(m:Int)).toNat=gH a m:=by
  obtain⟨n,rfl⟩:=Int.eq_ofNat_of_zero_le h4;rw[Int.natAbs_natCast]at h5;have e1:((n:Int)%(m:Int)).toNat=n%m:=rfl;rw[e1,h5];obtain⟨g1,g2⟩:=(mZ h0 hg').inv;exact(gI g1 (by rw[jy]at g2;exact g2)).symm
 rw[hX]at hi;have hbn:(bR 1 !=bR 1)=false:=by simp
 clear h1 h4 h5 hX;refine eW call367 func367 ?_;repeat' first|simp only[go_sem,seval,Z,hbn,o6,fW]|refine cP hc ?_|refine cP hd ?_|refine cP h3 ?_|refine cP ho ?_|refine cP hi ?_|refine oE ?_|apply xX<;>intro hc
theorem Kb {a m:Nat} {e:Bytes} {ng:Bool} (ha:a<m) (he:aa e=true) (hz:(ng&&e==[])=false) (hm:m<(2^64)) (hu:Nat.gcd a m=1):aE 237 [N a, .agg [.b ng, .s e],N m] (.tup [N (dw m a ng (num e)),E 0]):=by
 have h0:0<m:=oO;have w2:=nW;have v1:=aI (bR a);have v2:=aI (bR m);rw[vB (show a<dC by omega)]at v1
 rw[vB (show m<dC by omega)]at v2
 have v3:=jQ ng e;rw[he,hz]at v3;have e0:(bR m==([]:Bytes))=false:=pK oO;have hi:=EB (show a<(2^64) by omega) hm h0 hu
 have hil:=(mZ h0 hu).inv.1;cases ng
 ·have hr:=uF (a:=a) (m:=m) (e:=e) oO he hm h0;have e1:dw m a false (num e)=a^num e%m:=rfl;rw[e1];refine eW call237 func237 ?_;exact zB @e0 @v1 @v2 @v3 @hr
 ·have hr:=uF (a:=gH a m) (m:=m) (e:=e) oO he hm h0;have e1:dw m a true (num e)=gH a m^num e%m:=rfl;rw[e1];refine eW call237 func237 ?_;exact VX @e0 @v1 @v2 @v3 @hi @hr oT oT
end Go.Proofs.Tryz
namespace Go.Dom
def pp (l:List (Nat×Nat)) (k:Nat):Nat:=l.foldr (fun p a=>p.1^(p.2/2^k)*a) 1
def pb (l:List (Nat×Nat)) (k:Nat):Nat:=l.foldr (fun p a=>p.1^(p.2/2^k%2)*a) 1
theorem we (p:Nat×Nat) (l:List (Nat×Nat)) (k:Nat):pp (p::l) k=p.1^(p.2/2^k)*pp l k:=rfl
theorem B8 (p:Nat×Nat) (l:List (Nat×Nat)) (k:Nat):pb (p::l) k=p.1^(p.2/2^k%2)*pb l k:=rfl
theorem Qq (l:List (Nat×Nat)) (p:Nat×Nat) (k:Nat):pb (l++[p]) k=pb l k*p.1^(p.2/2^k%2):=by
 induction l with
 |nil=>simp[pb]
 |cons q l ih=>rw[List.cons_append,B8,B8,ih,cA]
theorem Qr (l:List (Nat×Nat)) (k:Nat):pp l k=pp l (k+1)*pp l (k+1)*pb l k:=by
 induction l with
 |nil=>rfl
 |cons p l ih=>
  rw[we,we,B8,ih];have e:p.2/2^k=p.2/2^(k+1)+p.2/2^(k+1)+p.2/2^k%2:=by
   have:p.2/2^(k+1)=p.2/2^k/2:=by rw[Nat.pow_succ,eL]
   omega
  rw[e,cY,cY,<-e];generalize p.1^(p.2/2^(k+1))=a;generalize p.1^(p.2/2^k%2)=b;generalize pp l (k+1)=c;generalize pb l k=d;simp only[cA,CD,bU]
theorem U2 {l:List (Nat×Nat)} {k:Nat} (h: ∀p∈l,p.2<2^k):pp l k=1:=by
 induction l with
 |nil=>rfl
 |cons p l ih=>
  rw[we,ih fun q hq=>h q (iQ _ hq),ir (h p (qD ..))];rfl
noncomputable def Lq (M:Nat) (x:Nat) (e:Bool×Bytes):Nat:=if e.1 then gH x M else x
noncomputable def yE (M:Nat) (l:List (Nat×(Bool×Bytes))):Nat:=pp (l.map fun p=>(Lq M p.1 p.2,num p.2.2)) 0%M
theorem wj (M:Nat):yE M []=1%M:=rfl
theorem MQ (p:Nat×Nat) (l:List (Nat×Nat)):pp (p::l) 0=p.1^p.2*pp l 0:=by rw[we,Nat.pow_zero,iq]
theorem pL (M:Nat) (x:Nat) (e:Bool×Bytes) (l:List (Nat×(Bool×Bytes))):yE M ((x,e)::l)=dw M x e.1 (num e.2)*yE M l%M:=by
 unfold yE dw;rw[bV,MQ,<-cC];rfl
theorem Qu (M:Nat) (x:Nat) (e:Bool×Bytes):yE M [(x,e)]=dw M x e.1 (num e.2):=by
 rw[pL,wj,jw,dK];unfold dw;rw[ew]
noncomputable def gJ (m x:Nat) (z:Int):Nat:=dw m x (decide (z<0)) z.natAbs
theorem oB {m x y:Nat} (h:x*y%m=1%m) (n k:Nat):x^(n+k)*y^k%m=x^n%m:=by
 rw[cY,cA,<-qw,cC,iR (x*y) k m,h,<-iR,qE,<-cC,dK]
theorem mT (m x:Nat) (n:Nat):gJ m x (n:Int)=x^n%m:=by
 unfold gJ dw;rw[bL (by omega)];simp
theorem mq {m x:Nat} (n:Nat):gJ m x (-(n:Int))=gH x m^n%m:=by
 unfold gJ dw
 by_cases h:n=0
 ·subst h;simp
 ·rw[aV (by omega)];simp
theorem Ev {m x:Nat} (h:eg m x) (hm:0<m) (a b:Int):gJ m x a*gJ m x b%m=gJ m x (a+b):=by
 obtain⟨h1,h2⟩:=h.inv;have h3:gH x m*x%m=1%m:=by rw[bU];exact h2
 rcases Int.eq_nat_or_neg a with⟨n,rfl|rfl⟩<;>rcases Int.eq_nat_or_neg b with⟨k,rfl|rfl⟩
 ·rw[mT,mT,<-cC,<-cY,<-mT];simp
 ·rw[mT,mq,<-cC];rcases Nat.le_total k n with hk|hk
  ·obtain⟨d,rfl⟩:=wK hk;rw[gn k d,oB h2,<-mT];congr 1;omega
  ·obtain⟨d,rfl⟩:=wK hk;rw[bU,gn n d,oB h3,<-mq];congr 1;omega
 ·rw[mT,mq,<-cC];rcases Nat.le_total k n with hk|hk
  ·obtain⟨d,rfl⟩:=wK hk;rw[gn k d,oB h3,<-mq];congr 1;omega
  ·obtain⟨d,rfl⟩:=wK hk;rw[bU,gn n d,oB h2,<-mT];congr 1;omega
 ·rw[mq,mq,<-cC,<-cY,<-mq];congr 1;omega
theorem AI (m x:Nat):gJ m x 0=1%m:=nO _ _ _
theorem nN {m x:Nat} (h:eg m x) (hm:0<m) (a b:Int):gJ m (gJ m x a) b=gJ m x (a*b):=by
 unfold gJ;rw[AJ h hm,lj]
 by_cases h0:a.natAbs*b.natAbs=0
 ·rw[h0,nO,nO]
 ·congr 1;have ha:a≠0:=fun e=>h0 (by simp[e])
  have hb:b≠0:=fun e=>h0 (by simp[e])
  rw[dk];simp only[qJ,ne_eq,fz,bM];rcases Int.lt_or_gt_of_ne ha with h1|h1<;>rcases Int.lt_or_gt_of_ne hb with h2|h2
  ·have:=Int.mul_pos_of_neg_of_neg h1 h2;generalize a*b=c at*;omega
  ·have:=Int.mul_neg_of_neg_of_pos h1 h2;generalize a*b=c at*;omega
  ·have:=Int.mul_neg_of_pos_of_neg h1 h2;generalize a*b=c at*;omega
  ·have:=Int.mul_pos h1 h2;generalize a*b=c at*;omega
theorem Mh {m x y:Nat} (h:eg m x) (g:eg m y) (hm:0<m):gH (x*y%m) m=gH x m*gH y m%m:=by
 refine gI (aP _ hm) ?_;rw[<-cC,show x*y*(gH x m*gH y m)=(x*gH x m)*(y*gH y m) by rw[cA,cA];congr 1;rw[<-cA,bU y,cA],cC,h.inv.2,g.inv.2,<-cC,iv]
theorem MM {m x y:Nat} (h:eg m x) (g:eg m y) (hm:0<m) (z:Int):gJ m (x*y%m) z=gJ m x z*gJ m y z%m:=by
 unfold gJ dw
 cases decide (z<0)
 ·simp only[bO,ar];rw[<-iR,qw,cC]
 ·simp only[az];rw[Mh h g hm,<-iR,qw,cC]
theorem Bi {m x:Nat} (h:eg m x) (hm:0<m) (z:Int):eg m (gJ m x z):=h.dw hm _ _
theorem Ew (m x:Nat) (z:Int):gJ m x z%m=gJ m x z:=ew _ _
noncomputable def yD (m:Nat):List (Nat×Int)->Nat
 |[]=>1%m
 |p::l=>gJ m p.1 p.2*yD m l%m
theorem zh {m:Nat} (hm:0<m):eg m (1%m):=⟨1%m,aP _ hm,by rw[<-cC,iv]⟩
theorem N1 {m:Nat} (hm:0<m) {l:List (Nat×Int)} (h: ∀p∈l,eg m p.1):eg m (yD m l):=by
 induction l with
 |nil=>exact zh hm
 |cons p l ih=>exact(Bi (h p (.head _)) hm _).mul (ih fun q hq=>h q (.tail _ hq)) hm
variable {α:Type} {m:Nat} (b:α->Nat)
theorem Qs (hm:0<m) (e f:α->Int) {l:List α} (h: ∀t∈l,eg m (b t)):yD m (l.map fun t=>(b t,e t))*yD m (l.map fun t=>(b t,f t))%m=yD m (l.map fun t=>(b t,e t+f t)):=by
 induction l with
 |nil=>simp only[bj,yD];rw[<-cC,iv]
 |cons t l ih=>
  simp only[bV,yD];rw[<-Ev (h t (.head _)) hm,<-ih fun q hq=>h q (.tail _ hq),<-cC,<-cC]
  congr 1;simp only[cA,CD]
theorem Qt (hm:0<m) (e:α->Int) (z:Int) {l:List α} (h: ∀t∈l,eg m (b t)):gJ m (yD m (l.map fun t=>(b t,e t))) z=yD m (l.map fun t=>(b t,e t*z)):=by
 induction l with
 |nil=>
  simp only[bj,yD];have:=nN (zh hm) hm 0 z
  rwa[Int.zero_mul,AI]at this
 |cons t l ih=>
  have hl: ∀q∈l,eg m (b q):=fun q hq=>h q (.tail _ hq)
  simp only[bV,yD];rw[MM (Bi (h t (.head _)) hm _) (N1 hm fun p hp=>by
   obtain⟨q,hq,rfl⟩:=cv.1 hp;exact hl q hq) hm,nN (h t (.head _)) hm,ih hl]
theorem J0 {e f:α->Int} {l:List α} (h: ∀t∈l,gJ m (b t) (e t)=gJ m (b t) (f t)):yD m (l.map fun t=>(b t,e t))=yD m (l.map fun t=>(b t,f t)):=by
 induction l with
 |nil=>rfl
 |cons t l ih=>
  simp only[bV,yD];rw[h t (.head _),ih fun q hq=>h q (.tail _ hq)]
theorem MN {x o:Nat} (hx:eg m x) (hm:0<m) (ho:x^o%m=1%m) {a c:Int} (h:(o:Int)∣a-c):gJ m x a=gJ m x c:=by
 obtain⟨k,hk⟩:=h;have e:a=c+o*k:=by omega
 have h1:gJ m x (o*k)=1%m:=by
  rw[<-nN hx hm,mT,ho];have:=nN (zh hm) hm 0 k
  rwa[Int.zero_mul,AI]at this
 rw[e,<-Ev hx hm,h1,jw,dK,Ew]
theorem Nq (hm:0<m) {l:List α} (h: ∀t∈l,eg m (b t)) (w s r:α->Int) (c:Int) (hr: ∀t∈l,gJ m (b t) (r t)=gJ m (b t) (s t+c*w t)):
  gJ m (yD m (l.map fun t=>(b t,w t))) (-c)*yD m (l.map fun t=>(b t,r t))%m=yD m (l.map fun t=>(b t,s t)):=by
 rw[Qt b hm w (-c) h,J0 b hr,Qs b hm _ _ h];congr 2
 funext t
 congr 1;rw[ni,qy];omega
theorem MS (hm:0<m) (e:α->Int) {l:List α} (x:Nat) (hx:x%m=x):l.foldl (fun y t=>y*gJ m (b t) (e t)%m) x=x*yD m (l.map fun t=>(b t,e t))%m:=by
 induction l generalizing x with
 |nil=>simp only[List.foldl_nil,bj,yD];rw[jw,dK,hx]
 |cons t l ih=>
  simp only[List.foldl_cons,bV,yD];rw[ih _ (ew _ _),jy,jw,cA]
theorem Qv (l:List (Nat×Int)) (g:Nat×Int->Nat×(Bool×Bytes)) (hg: ∀p,g p=(p.1,(decide (p.2<0),bR p.2.natAbs))):yE m (l.map g)=yD m l:=by
 induction l with
 |nil=>rfl
 |cons p l ih=>rw[bV,hg,pL,ih,yD,aY];rfl
