/- Part of the proof. -/
import Derived.Test.YthlapgdhjcddkaaGreatDoorUF16
set_option linter.all false
namespace Go.Dom
variable {a b g:Nat} {x0 x1 y0 y1:Int}
structure tZ (a b r0 r1:Nat) (x0 x1 y0 y1:Int):Prop where
 e0:(a:Int)*x0+b*y0=r0
 e1:(a:Int)*x1+b*y1=r1
 g:Nat.gcd r0 r1=Nat.gcd a b
 hx:x1.natAbs*r0+x0.natAbs*r1<=b
 hy:y1.natAbs*r0+y0.natAbs*r1<=a
 bx0:x0.natAbs<=b
 bx1:x1.natAbs<=b
 by0:y0.natAbs<=a+1
 by1:y1.natAbs<=a+1
theorem tZ.start (hb:0<b):tZ a b a b 1 0 0 1:=
 ⟨by omega,by omega,rfl,by simp,by simp,by show 1<=b;omega,by simp,by simp,by simp⟩
theorem Fc {q r0 r1 B:Nat} (hq:q=r0/r1) (h:x1.natAbs*r0+x0.natAbs*r1<=B):(x0-q*x1).natAbs*r1+x1.natAbs*(r0%r1)<=B:=by
 have h1:(x0-q*x1).natAbs<=x0.natAbs+q*x1.natAbs:=by
  have:=Int.natAbs_sub_le x0 (q*x1)
  rwa[mZ,Int.natAbs_natCast]at this
 have h2:=dQ r1 h1;have h3:r1*q+r0%r1=r0:=by rw[hq];exact jc r0 r1
 have h4:x1.natAbs*r0=x1.natAbs*(r1*q)+x1.natAbs*(r0%r1):=by rw[<-kN,h3]
 have h5:(x0.natAbs+q*x1.natAbs)*r1=x0.natAbs*r1+x1.natAbs*(r1*q):=by
  rw[dK,cv q,de,cv q]
 omega
theorem tZ.step {r0 r1:Nat} (h:tZ a b r0 r1 x0 x1 y0 y1) (h1:0<r1):tZ a b r1 (r0%r1) x1 (x0-(r0/r1:Nat)*x1) y1 (y0-(r0/r1:Nat)*y1):=by
 have hx:=Fc (q:=r0/r1) rfl h.hx;have hy:=Fc (q:=r0/r1) rfl h.hy;have le: ∀{n B:Nat} {m:Nat},n*r1+m<=B->n<=B:=fun{n B m} g=>by
  have:=Nat.le_mul_of_pos_right n h1;omega
 refine⟨h.e1,?_,?_,hx,hy,h.bx1,le hx,h.by1,?_⟩
 ·have e0:=h.e0;have e1:=h.e1;have hd:=jc r0 r1;generalize r0/r1=q at*;generalize r0%r1=t at*;have:(r0:Int)=r1*q+t:=by rw[<-hd];simp
  rw[qv,qv];have e3:(a:Int)*(q*x1)=q*(a*x1):=by rw[<-mY,su (a:Int),mY]
  have e4:(b:Int)*(q*y1)=q*(b*y1):=by rw[<-mY,su (b:Int),mY]
  have e5:(q:Int)*(a*x1)+q*(b*y1)=r1*q:=by rw[<-mV,e1,su]
  omega
 ·rw[<-h.g,lB r0 r1,mQ r1 r0,lB]
 ·have:=le hy;omega
theorem HL {X Y:Int} (h0:0<=X) (h:(a:Int)*X+b*Y=1):a*(X.natAbs%b)%b=1%b:=by
 obtain⟨n,rfl⟩:=Int.eq_ofNat_of_zero_le h0;rw[Int.natAbs_natCast,oV];have e:((a*n:Nat):Int)%b=(1:Int)%b:=by
  have:((a*n:Nat):Int)=1+b*(-Y):=by simp only[Int.natCast_mul,oP];omega
  rw[this,sk]
 exact_mod_cast e
theorem N7 {a m i j:Nat} (hi:i<m) (hj:j<m) (h1:a*i%m=1%m) (h2:a*j%m=1%m):i=j:=by
 have e1:i*(a*j)%m=i%m:=by rw[<-oV,h2,oV,dr]
 have e2:i*(a*j)%m=j%m:=by rw[<-de,cv i a,<-jt,h1,jt,iL]
 rw[bV hi]at e1;rw[bV hj]at e2;omega
noncomputable def gV (a m:Nat):Nat:= @dite _ (∃i,i<m/\a*i%m=1%m) (Classical.propDecidable _) (fun h=>Classical.choose h) (fun _=>0)
theorem mO {a m i:Nat} (hi:i<m) (h:a*i%m=1%m):gV a m=i:=by
 have hx: ∃i,i<m/\a*i%m=1%m:=⟨i,hi,h⟩;unfold gV;rw[dif_pos hx];obtain⟨g1,g2⟩:=Classical.choose_spec hx;exact N7 g1 hi g2 h
theorem tZ.fin (h:tZ a b g 0 x0 x1 y0 y1):g=Nat.gcd a b:=by
 have:=h.g;rwa[EL]at this
theorem tZ.inv (h:tZ a b 1 0 x0 x1 y0 y1) (hb:0<b): ∀X:Int,X=(if x0<0 then x0+b else x0)->0<=X/\X<=b/\X.natAbs%b=gV a b:=by
 intro X hX;have b0:=h.bx0;have h0:0<=X:=by rw[hX];split<;>omega
 refine⟨h0,by rw[hX];split<;>omega,(mO (aV _ hb) ?_).symm⟩
 have e0:=h.e0
 by_cases hx:x0<0
 ·rw[af hx]at hX;refine HL (Y:=y0-a) h0 ?_;rw[hX,mV,qv,su (b:Int) a];omega
 ·rw[aa hx]at hX;exact HL (Y:=y0) h0 (by rw[hX];omega)
def Fx:Nat->Nat->Nat->Int->Int->Int->Int->Nat×Int×Int
 |0,r0,_,x0,_,y0,_=>(r0,x0,y0)
 |f+1,r0,r1,x0,x1,y0,y1=>if r1=0 then(r0,x0,y0)else Fx f r1 (r0%r1) x1 (x0-(r0/r1:Nat)*x1) y1 (y0-(r0/r1:Nat)*y1)
theorem Fy: ∀{f r0 r1:Nat} {x0 x1 y0 y1:Int},r1<f->tZ a b r0 r1 x0 x1 y0 y1-> ∃x' y',tZ a b (Fx f r0 r1 x0 x1 y0 y1).1 0 (Fx f r0 r1 x0 x1 y0 y1).2.1 x' (Fx f r0 r1 x0 x1 y0 y1).2.2 y'
 |0,_,_,_,_,_,_,h,_=>aJ h (kI _)
 |f+1,r0,r1,x0,x1,y0,y1,h,hE=>by
  unfold Fx;split
  ·rename_i h0;subst h0;exact⟨x1,y1,hE⟩
  ·rename_i h0;exact Fy (by have:=aV r0 (show 0<r1 by omega);omega) (hE.step (by omega))
structure Uy (a b g:Nat) (x y:Int):Prop where
 z:b=0->x=1/\y=0
 bx:0<b->x.natAbs<=b
 by':0<b->y.natAbs<=max a 1
 e:(a:Int)*x+b*y=g
 g:g=Nat.gcd a b
theorem Uy.base (a:Nat):Uy a 0 a 1 0:=⟨fun _=>⟨rfl,rfl⟩,fun h=>by omega,fun h=>by omega,by simp,by simp⟩
theorem Uy.step {x y:Int} (hb:0<b) (h:Uy b (a%b) g x y):Uy a b g y (x-(a/b:Nat)*y):=by
 have hd:=jc a b;have hg:g=Nat.gcd a b:=by rw[h.g,lB a b,mQ b a,lB]
 have he:=h.e;have e1:(a:Int)=b*(a/b:Nat)+(a%b:Nat):=by
  have:((b*(a/b)+a%b:Nat):Int)=(a:Int):=by rw[hd]
  rw[<-this];simp
 rcases kH (a%b)with h0|h0
 ·obtain⟨rfl,rfl⟩:=h.z h0;refine⟨by omega,by simp,fun _=>by simp;omega,?_,hg⟩
  simp only[zm,Int.sub_zero,Int.mul_one,yR,Int.add_zero]at he⊢;exact he
 ·have bx:=h.bx h0;have by1:y.natAbs<=b:=by have:=h.by' h0;omega
  refine⟨by omega,fun _=>by1,fun _=> ?_,?_,hg⟩
  ·have h1:(x-(a/b:Nat)*y).natAbs<=x.natAbs+a/b*y.natAbs:=by
    have:=Int.natAbs_sub_le x ((a/b:Nat)*y)
    rwa[mZ,Int.natAbs_natCast]at this
   have h2:=jR (a/b) by1;have h3:a/b*b=b*(a/b):=cv _ _;omega
  ·generalize a/b=q at*;generalize a%b=t at*;rw[qv,e1,Int.add_mul];have e3:(b:Int)*q*y=b*(q*y):=mY ..;omega
noncomputable def dM (m x:Nat) (ng:Bool) (e:Nat):Nat:=(if ng then gV x m else x)^e%m
def eK (m x:Nat):Prop:= ∃i,i<m/\x*i%m=1%m
theorem eK.inv {m x:Nat} (h:eK m x):gV x m<m/\x*gV x m%m=1%m:=by
 obtain⟨i,h1,h2⟩:=h;rw[mO h1 h2];exact⟨h1,h2⟩
theorem eK.ZX {m x:Nat} (h:eK m x) (hm:0<m):eK m (gV x m):=
 ⟨x%m,aV _ hm,by rw[oV,cv];exact h.inv.2⟩
theorem eK.pow {m x:Nat} (h:eK m x) (hm:0<m) (e:Nat):eK m (x^e%m)/\gV (x^e%m) m=gV x m^e%m:=by
 obtain⟨h1,h2⟩:=h.inv;have key:x^e%m*(gV x m^e%m)%m=1%m:=by
  rw[<-db,<-sy,j8,h2,<-j8,yW]
 have hl:gV x m^e%m<m:=aV _ hm;exact⟨⟨_,hl,key⟩,mO hl key⟩
theorem eK.inv2 {m x:Nat} (h:eK m x) (hm:0<m):gV (gV x m) m=x%m:=
 mO (aV _ hm) (by rw[oV,cv];exact h.inv.2)
theorem eK.dM {m x:Nat} (h:eK m x) (hm:0<m) (ng:Bool) (e:Nat):eK m (Dom.dM m x ng e):=by
 unfold Dom.dM;cases ng
 ·exact(h.pow hm e).1
 ·exact((h.ZX hm).pow hm e).1
theorem eK.mul {m x y:Nat} (h:eK m x) (g:eK m y) (hm:0<m):eK m (x*y%m):=by
 obtain⟨i,h1,h2⟩:=h;obtain⟨j,g1,g2⟩:=g;refine⟨i*j%m,aV _ hm,?_⟩;rw[<-db];have e:x*y*(i*j)=(x*i)*(y*j):=by
  rw[de,de];congr 1;rw[<-de,cv y i,de]
 rw[e,db,h2,g2,<-db,iL]
theorem oG (m x a b:Nat):(x^a%m)^b%m=x^(a*b)%m:=by rw[<-j8,<-kR]
theorem CG {m x:Nat} (h:eK m x) (hm:0<m) (n1 n2:Bool) (a b:Nat):dM m (dM m x n1 a) n2 b=dM m x (n1 !=n2) (a*b):=by
 cases n1<;>cases n2
 ·simp only[dM,cE,aB,iz,oG]
 ·have:=(h.pow hm a).2;simp only[dM,cE,aB,aC,this,oG,Bool.bne_true,dW]
 ·simp only[dM,cE,aB,aC,oG,Bool.bne_false]
 ·have h1:=((h.ZX hm).pow hm a).2;rw[h.inv2 hm]at h1;simp only[dM,aC,iz,cE,aB,h1];rw[oG,<-j8]
theorem pC (m x:Nat) (n:Bool):dM m x n 0=1%m:=by simp[dM]
theorem ky {m x:Nat} (hm:0<m) (h:Nat.gcd x m=1):eK m x:=by
 have key: ∀(n a b:Nat),b<=n-> ∃X Y:Int,(a:Int)*X+b*Y=Nat.gcd a b:=by
  intro n
  induction n with
  |zero=>
   intro a b hb;obtain rfl:b=0:=by omega
   exact⟨1,0,by simp⟩
  |succ n ih=>
   intro a b hb;rcases kH b with rfl|h0
   ·exact⟨1,0,by simp⟩
   ·obtain⟨X,Y,e⟩:=ih b (a%b) (by have:=aV a h0;omega)
    refine⟨Y,X-(a/b:Nat)*Y,?_⟩;have hg:Nat.gcd b (a%b)=Nat.gcd a b:=by rw[lB a b,mQ b a,lB]
    rw[<-hg,<-e];have e1:(a:Int)=b*(a/b:Nat)+(a%b:Nat):=by
     have:((b*(a/b)+a%b:Nat):Int)=(a:Int):=by rw[jc]
     rw[<-this];simp
    generalize a/b=q at*;generalize a%b=t at*;rw[qv,e1,Int.add_mul];have e3:(b:Int)*q*Y=b*(q*Y):=mY ..;omega
 obtain⟨X,Y,e⟩:=key m x m (aA _);rw[h]at e;refine⟨(X%(m:Int)).toNat,?_,?_⟩
 ·have:=kQ X (show(0:Int)<m by omega)
  have:=jz X (show(m:Int)≠0 by omega)
  omega
 ·have h0:=jz X (show(m:Int)≠0 by omega)
  have e2:((x*(X%(m:Int)).toNat:Nat):Int)%m=(1:Int)%m:=by
   rw[Int.natCast_mul,oX h0,Int.mul_emod,Int.emod_emod_of_dvd _ (Int.dvd_refl _),<-Int.mul_emod];have:(x:Int)*X=1+m*(-Y):=by rw[oP];simp at e;omega
   rw[this,sk]
  exact_mod_cast e2
def pp (l:List (Nat×Nat)) (k:Nat):Nat:=l.foldr (fun p a=>p.1^(p.2/2^k)*a) 1
def pb (l:List (Nat×Nat)) (k:Nat):Nat:=l.foldr (fun p a=>p.1^(p.2/2^k%2)*a) 1
theorem yD (p:Nat×Nat) (l:List (Nat×Nat)) (k:Nat):pp (p::l) k=p.1^(p.2/2^k)*pp l k:=rfl
theorem DT (p:Nat×Nat) (l:List (Nat×Nat)) (k:Nat):pb (p::l) k=p.1^(p.2/2^k%2)*pb l k:=rfl
theorem Tn (l:List (Nat×Nat)) (p:Nat×Nat) (k:Nat):pb (l++[p]) k=pb l k*p.1^(p.2/2^k%2):=by
 induction l with
 |nil=>simp[pb]
 |cons q l ih=>rw[List.cons_append,DT,DT,ih,de]
theorem To (l:List (Nat×Nat)) (k:Nat):pp l k=pp l (k+1)*pp l (k+1)*pb l k:=by
 induction l with
 |nil=>rfl
 |cons p l ih=>
  rw[yD,yD,DT,ih];have e:p.2/2^k=p.2/2^(k+1)+p.2/2^(k+1)+p.2/2^k%2:=by
   have:p.2/2^(k+1)=p.2/2^k/2:=by rw[Nat.pow_succ,ff]
   omega
  rw[e,dD,dD,<-e];generalize p.1^(p.2/2^(k+1))=a;generalize p.1^(p.2/2^k%2)=b;generalize pp l (k+1)=c;generalize pb l k=d;simp only[de,EC,cv]
theorem XO {l:List (Nat×Nat)} {k:Nat} (h: ∀p∈l,p.2<2^k):pp l k=1:=by
 induction l with
 |nil=>rfl
 |cons p l ih=>
  rw[yD,ih fun q hq=>h q (ju _ hq),iZ (h p (mS ..))];rfl
noncomputable def UK (M:Nat) (x:Nat) (e:Bool×Bytes):Nat:=if e.1 then gV x M else x
noncomputable def Q2 (M:Nat) (l:List (Nat×(Bool×Bytes))):Nat:=pp (l.map fun p=>(UK M p.1 p.2,num p.2.2)) 0%M
theorem Pl (p:Nat×Nat) (l:List (Nat×Nat)):pp (p::l) 0=p.1^p.2*pp l 0:=by rw[yD,Nat.pow_zero,jx]
theorem Pm (M:Nat) (x:Nat) (e:Bool×Bytes) (l:List (Nat×(Bool×Bytes))):Q2 M ((x,e)::l)=dM M x e.1 (num e.2)*Q2 M l%M:=by
 unfold Q2 dM;rw[b8,Pl,<-db];rfl
noncomputable def gN (m x:Nat) (z:Int):Nat:=dM m x (decide (z<0)) z.natAbs
theorem qc {m x y:Nat} (h:x*y%m=1%m) (n k:Nat):x^(n+k)*y^k%m=x^n%m:=by
 rw[dD,de,<-sy,db,j8 (x*y) k m,h,<-j8,yW,<-db,dr]
theorem oB (m x:Nat) (n:Nat):gN m x (n:Int)=x^n%m:=by
 unfold gN dM;rw[aS (by omega)];simp
theorem nK {m x:Nat} (n:Nat):gN m x (-(n:Int))=gV x m^n%m:=by
 unfold gN dM
 by_cases h:n=0
 ·subst h;simp
 ·rw[aQ (by omega)];simp
theorem AP {m x:Nat} (h:eK m x) (hm:0<m) (a b:Int):gN m x a*gN m x b%m=gN m x (a+b):=by
 obtain⟨h1,h2⟩:=h.inv;have h3:gV x m*x%m=1%m:=by rw[cv];exact h2
 rcases Int.eq_nat_or_neg a with⟨n,rfl|rfl⟩<;>rcases Int.eq_nat_or_neg b with⟨k,rfl|rfl⟩
 ·rw[oB,oB,<-db,<-dD,<-oB];simp
 ·rw[oB,nK,<-db];rcases Nat.le_total k n with hk|hk
  ·obtain⟨d,rfl⟩:=y9 hk;rw[iM k d,qc h2,<-oB];congr 1;omega
  ·obtain⟨d,rfl⟩:=y9 hk;rw[cv,iM n d,qc h3,<-nK];congr 1;omega
 ·rw[oB,nK,<-db];rcases Nat.le_total k n with hk|hk
  ·obtain⟨d,rfl⟩:=y9 hk;rw[iM k d,qc h3,<-nK];congr 1;omega
  ·obtain⟨d,rfl⟩:=y9 hk;rw[cv,iM n d,qc h2,<-oB];congr 1;omega
 ·rw[nK,nK,<-db,<-dD,<-nK];congr 1;omega
theorem wS (m x:Nat):gN m x 0=1%m:=pC _ _ _
theorem nf {m x:Nat} (h:eK m x) (hm:0<m) (a b:Int):gN m (gN m x a) b=gN m x (a*b):=by
 unfold gN;rw[CG h hm,mZ]
 by_cases h0:a.natAbs*b.natAbs=0
 ·rw[h0,pC,pC]
 ·congr 1;have ha:a≠0:=fun e=>h0 (by simp[e])
  have hb:b≠0:=fun e=>h0 (by simp[e])
  rw[cu];simp only[bne_iff_ne,ne_eq,fk,a8];rcases Int.lt_or_gt_of_ne ha with h1|h1<;>rcases Int.lt_or_gt_of_ne hb with h2|h2
  ·have:=Int.mul_pos_of_neg_of_neg h1 h2;generalize a*b=c at*;omega
  ·have:=Int.mul_neg_of_neg_of_pos h1 h2;generalize a*b=c at*;omega
  ·have:=Int.mul_neg_of_pos_of_neg h1 h2;generalize a*b=c at*;omega
  ·have:=Int.mul_pos h1 h2;generalize a*b=c at*;omega
theorem N5 {m x y:Nat} (h:eK m x) (g:eK m y) (hm:0<m):gV (x*y%m) m=gV x m*gV y m%m:=by
 refine mO (aV _ hm) ?_;rw[<-db,show x*y*(gV x m*gV y m)=(x*gV x m)*(y*gV y m) by rw[de,de];congr 1;rw[<-de,cv y,de],db,h.inv.2,g.inv.2,<-db,iL]
theorem Ph {m x y:Nat} (h:eK m x) (g:eK m y) (hm:0<m) (z:Int):gN m (x*y%m) z=gN m x z*gN m y z%m:=by
 unfold gN dM
 cases decide (z<0)
 ·simp only[cE,aB];rw[<-j8,sy,db]
 ·simp only[aC];rw[N5 h g hm,<-j8,sy,db]
theorem C4 {m x:Nat} (h:eK m x) (hm:0<m) (z:Int):eK m (gN m x z):=h.dM hm _ _
theorem AQ (m x:Nat) (z:Int):gN m x z%m=gN m x z:=eQ _ _
noncomputable def xZ (m:Nat):List (Nat×Int)->Nat
 |[]=>1%m
 |p::l=>gN m p.1 p.2*xZ m l%m
theorem Tq (m:Nat) (l:List (Nat×Int)):xZ m l%m=xZ m l:=by cases l<;>exact eQ _ _
theorem Bp {m:Nat} (hm:0<m):eK m (1%m):=⟨1%m,aV _ hm,by rw[<-db,iL]⟩
theorem QA {m:Nat} (hm:0<m) {l:List (Nat×Int)} (h: ∀p∈l,eK m p.1):eK m (xZ m l):=by
 induction l with
 |nil=>exact Bp hm
 |cons p l ih=>exact(C4 (h p (.head _)) hm _).mul (ih fun q hq=>h q (.tail _ hq)) hm
variable {α:Type} {m:Nat} (b:α->Nat)
theorem Tp (hm:0<m) (e f:α->Int) {l:List α} (h: ∀t∈l,eK m (b t)):xZ m (l.map fun t=>(b t,e t))*xZ m (l.map fun t=>(b t,f t))%m=xZ m (l.map fun t=>(b t,e t+f t)):=by
 induction l with
 |nil=>simp only[cb,xZ];rw[<-db,iL]
 |cons t l ih=>
  simp only[b8,xZ];rw[<-AP (h t (.head _)) hm,<-ih fun q hq=>h q (.tail _ hq),<-db,<-db]
  congr 1;simp only[de,EC]
theorem Tr (hm:0<m) (e:α->Int) (z:Int) {l:List α} (h: ∀t∈l,eK m (b t)):gN m (xZ m (l.map fun t=>(b t,e t))) z=xZ m (l.map fun t=>(b t,e t*z)):=by
 induction l with
 |nil=>
  simp only[cb,xZ];have:=nf (Bp hm) hm 0 z
  rwa[Int.zero_mul,wS]at this
 |cons t l ih=>
  have hl: ∀q∈l,eK m (b q):=fun q hq=>h q (.tail _ hq)
  simp only[b8,xZ];rw[Ph (C4 (h t (.head _)) hm _) (QA hm fun p hp=>by
   obtain⟨q,hq,rfl⟩:=cx.1 hp;exact hl q hq) hm,nf (h t (.head _)) hm,ih hl]
theorem Lp {e f:α->Int} {l:List α} (h: ∀t∈l,gN m (b t) (e t)=gN m (b t) (f t)):xZ m (l.map fun t=>(b t,e t))=xZ m (l.map fun t=>(b t,f t)):=by
 induction l with
 |nil=>rfl
 |cons t l ih=>
  simp only[b8,xZ];rw[h t (.head _),ih fun q hq=>h q (.tail _ hq)]
theorem Pj {x o:Nat} (hx:eK m x) (hm:0<m) (ho:x^o%m=1%m) {a c:Int} (h:(o:Int)∣a-c):gN m x a=gN m x c:=by
 obtain⟨k,hk⟩:=h;have e:a=c+o*k:=by omega
 have h1:gN m x (o*k)=1%m:=by
  rw[<-nf hx hm,oB,ho];have:=nf (Bp hm) hm 0 k
  rwa[Int.zero_mul,wS]at this
 rw[e,<-AP hx hm,h1,oV,dr,AQ]
theorem PM (hm:0<m) {l:List α} (h: ∀t∈l,eK m (b t)) (w s r:α->Int) (c:Int) (hr: ∀t∈l,gN m (b t) (r t)=gN m (b t) (s t+c*w t)):
  gN m (xZ m (l.map fun t=>(b t,w t))) (-c)*xZ m (l.map fun t=>(b t,r t))%m=xZ m (l.map fun t=>(b t,s t)):=by
 rw[Tr b hm w (-c) h,Lp b hr,Tp b hm _ _ h];congr 2
 funext t
 congr 1;rw[oP,su];omega
theorem Gq (hm:0<m) (e:α->Int) {l:List α} (x:Nat) (hx:x%m=x):l.foldl (fun y t=>y*gN m (b t) (e t)%m) x=x*xZ m (l.map fun t=>(b t,e t))%m:=by
 induction l generalizing x with
 |nil=>simp only[List.foldl_nil,cb,xZ];rw[oV,dr,hx]
 |cons t l ih=>
  simp only[List.foldl_cons,b8,xZ];rw[ih _ (eQ _ _),jt,oV,de]
theorem Ts (l:List (Nat×Int)) (g:Nat×Int->Nat×(Bool×Bytes)) (hg: ∀p,g p=(p.1,(decide (p.2<0),b7 p.2.natAbs))):Q2 m (l.map g)=xZ m l:=by
 induction l with
 |nil=>rfl
 |cons p l ih=>rw[b8,hg,Pm,ih,xZ,bG];rfl
