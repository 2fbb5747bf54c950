/-
  Part of the proof, part FA22. Own work.
-/
import Derived.Test.YtfdjchnefpefbaaGreatDoorFA21
set_option linter.all false
namespace Go.Proofs.YtfdjchnefpefbaaGreatDoor
open Go Go.Dom
set_option maxRecDepth 100000
set_option maxHeartbeats 4000000
theorem tw {a b:Bytes} (ha:aa a=true) (hb:aa b=true) (h0:0<num b) (h:a.length<=8\/num a<num b):aA Tryz.prog 253 [.s a, .s b] (.tup [.s (aO (num a/num b)), .s (aO (num a%num b))]):=by
 have hc:=nB (bK ha) (bK hb)
 by_cases hlt:num a<num b
 ·have e:aU (num a) (num b)= -1:=by simp[aU,hlt]
  rw[e]at hc;have e1:aO (num a/num b)=[]:=by rw[gI hlt];rfl
  have e2:aO (num a%num b)=a:=by rw[aV hlt];exact fF ha
  refine eW Tryz.call253 Tryz.func253 ?_;exact o7 (aN @e1 @e2) @hc
 ·have la:a.length<=8:=h.resolve_right hlt;have lb:b.length<=8:=by
   rcases nS a.length b.length with g|g
   ·have:=gQ (a:=a) (bK hb) g;omega
   ·omega
  have sa:=mS a;have sb:=mS b;rw[ha,cf,decide_eq_true la]at sa;rw[hb,cf,decide_eq_true lb]at sb;have na:=dY la;have nb:=dY lb;have hc':0<=aU (num a) (num b):=by unfold aU;split<;>(try split)<;>omega
  have hq:num a/num b<18446744073709551616:=ec (dZ _ _) na;have hr:num a%num b<18446744073709551616:=ec (sy _ _) na;refine eW Tryz.call253 Tryz.func253 ?_;repeat' first|simp only[go_sem,seval,if_true,uw,aV hq]|refine cP hc ?_|refine cP sa ?_|refine cP sb ?_|refine cP (kf _ hq) ?_|refine cP (kf _ hr) ?_|refine sB ?_|apply xX<;>intro hc|refine⟨oD,?_⟩|exact oD|fail
def rm (a b:Bytes):Bytes×Bytes×Int:=if aa a&&aa b then(if b=[]then([],[],11)else(aO (num a/num b),aO (num a%num b),0))else([],[],3)
theorem rH {b:Bytes} (h:Canon b) (h0:b≠[]):0<num b:=bj (fI oC) (mU h h0)
theorem HW (a b:Bytes) (h:aa a=true->aa b=true->b≠[]->a.length<=8\/num a<num b):aA Tryz.prog 145 [.s a, .s b] (.tup [.s (rm a b).1, .s (rm a b).2.1,E (rm a b).2.2]):=by
 by_cases hv:aa a=true/\aa b=true
 case neg=>
  refine eW Tryz.call145 Tryz.func145 ?_;repeat' first|simp only[go_sem,seval]|refine cP (aJ _) ?_|refine sB ?_|apply xX<;>intro hc|refine⟨oD,?_⟩|exact oD|fail
  all_goals simp_all[rm]
 obtain⟨hva,hvb⟩:=hv
 by_cases hb:b=[]
 ·subst hb;refine eW Tryz.call145 Tryz.func145 ?_;repeat' first|simp only[go_sem,seval]|refine cP (aJ _) ?_|refine sB ?_|apply xX<;>intro hc|refine⟨oD,?_⟩|exact oD|fail
  all_goals simp_all[rm]
 ·have hp:=rH (bK hvb) hb;refine eW Tryz.call145 Tryz.func145 ?_;repeat' first|simp only[go_sem,seval]|refine cP (aJ _) ?_|refine cP (tw hva hvb hp (h hva hvb hb)) ?_|refine sB ?_|apply xX<;>intro hc|refine⟨oD,?_⟩|exact oD|fail
  all_goals simp_all[rm]
abbrev N (n:Nat):PV:= .s (aO n)
theorem vN {n:Nat} (h:n<18446744073709551616):aa (aO n)=true:=py (ix h (by decide+kernel))
theorem lN {n:Nat} (h:n<18446744073709551616):(aO n).length<=8:=nA.2 h
theorem qP {a b:Nat} (ha:a<18446744073709551616) (hb:b<18446744073709551616) (h0:0<b):aA Tryz.prog 145 [N a,N b] (.tup [N (a/b),N (a%b),E 0]):=by
 have:=HW (aO a) (aO b) (fun _ _ _=> .inl (lN ha))
 have e:aO b≠[]:=fun h=>by rw[fW]at h;omega
 simpa only[rm,vN ha,vN hb,db,if_true,e,if_false,aG]using this
theorem KR {a b:Nat} (ha:a<18446744073709551616) (hb:b<18446744073709551616) (h0:0<b):aA Tryz.prog 253 [N a,N b] (.tup [N (a/b),N (a%b)]):=by
 have:=tw (vN ha) (vN hb) (by rw[aG];exact h0) (.inl (lN ha))
 simpa only[aG]using this
theorem Fg:(aO 0==([]:Bytes))=true:=rfl
theorem rG {n:Nat} (h:n≠0):(aO n==([]:Bytes))=false:=by
 rw[beq_eq_false_iff_ne];intro e;exact h (fW.1 e)
theorem wR (m n:Nat):(aO m==aO n)=decide (m=n):=by
 rw[dE];simp[Gm]
theorem XX {a b:Nat} (ha:a<18446744073709551616) (hb:b<18446744073709551616):aA Tryz.prog 378 [N a,N b] (.tup [N (Nat.gcd a b),E 0]):=by
 have va:=aJ (aO a);have vb:=aJ (aO b);rw[vN ha]at va;rw[vN hb]at vb;refine eW Tryz.call378 Tryz.func378 ?_;refine ZN @va @vb ?_;refine af (α:=Nat×Nat) (fun x=>x.2) (fun x=>⟨[(0, .v (N x.1)),(1, .v (N x.2))],[],_⟩) (fun x=>x.1<18446744073709551616/\x.2<18446744073709551616/\Nat.gcd x.1 x.2=Nat.gcd a b) (a,b) (fun _=>an _) ⟨ha,hb,rfl⟩ ?_ ?_
 ·exact lE
 ·rintro⟨x,y⟩ ⟨hx,hy,hg⟩ R hR;simp only at hx hy hg
  by_cases h0:y=0
  ·subst h0;repeat' first|simp only[go_sem,seval,Fg]|refine sB ?_|apply xX<;>intro hc|refine⟨oD,?_⟩|exact oD|fail
   rw[<-hg,B9]
  ·have e:=rG h0;have hd:=KR hx hy oO;refine o8 @e @hd ?_;have hm:x%y<y:=aD _ oO;refine hR (y,x%y) ⟨hy,by show x%y< _;omega,?_⟩ hm _ ?_
   ·show Nat.gcd y (x%y)= _;rw[<-hg,jT x y,kM y x,jT]
   ·exact lE
theorem nn:(([]:Bytes)==[])=true:=rfl
theorem cn (c:UInt8) (r:Bytes):((c::r:Bytes)==[])=false:=rfl
def b9 (n:Nat):Nat:=if n=0 then 0 else n.log2+1
theorem u5 {a:Bytes} (h:aa a=true):aA Tryz.prog 131 [.s a] (E (b9 (num a))):=by
 have hv:=aJ a;rw[h]at hv
 cases a with
 |nil=>
  refine eW Tryz.call131 Tryz.func131 ?_;repeat' first|simp only[go_sem,seval,nn]|refine cP hv ?_|refine sB ?_|apply xX<;>intro hc|refine⟨oD,?_⟩|exact oD|fail
  rfl
 |cons c r=>
  have hc:=bK h;have hl:=cE h;have hp:=rH hc (by simp)
  have hn:num (c::r)=c.toNat*256^r.length+num r:=rfl;have hr:=cb r;have hc0:c≠0:=by rcases hc with e|e;cases e;exact e
  have hct:0<c.toNat:=by
   rcases j5 c.toNat with e|e
   ·exact absurd (iP.1 e:c=0) hc0
   ·exact e
  have hcl:=c.toNat_lt;have hb:=qc hct oO;have e256:256^r.length=2^(8*r.length):=by rw[show 256=2^8 from rfl,<-jo]
  have key:b9 (num (c::r))=8*r.length+Lib.bitLen c.toNat:=by
   unfold b9;rw[if_neg oO];have:(num (c::r)).log2=8*r.length+Lib.bitLen c.toNat-1:=by
    rw[Nat.log2_eq_iff oO];have a1:2^(8*r.length+Lib.bitLen c.toNat-1)=2^(Lib.bitLen c.toNat-1)*256^r.length:=by rw[e256,<-ct];congr 1;omega
    have a2:2^(8*r.length+Lib.bitLen c.toNat-1+1)=2^Lib.bitLen c.toNat*256^r.length:=by rw[e256,<-ct];congr 1;omega
    rw[a1,a2,hn];have b1:=cF (256^r.length) hb.2.1;have b2:=cF (256^r.length) (show c.toNat+1<=2^Lib.bitLen c.toNat from hb.2.2)
    rw[cu]at b2;omega
   omega
  have hL:=Ge c.toNat oO;have hbl:=jf (x:=c.toNat) oO;have hl':r.length<=127:=by simpa using hl
  rw[key];clear hb e256 key hn hr hp hc;refine eW Tryz.call131 Tryz.func131 ?_;repeat' first|simp only[go_sem,seval,cn]|refine cP hv ?_|refine cP hL ?_|refine sB ?_|apply xX<;>intro hc|refine⟨oD,?_⟩|exact oD|fail
  congr 1;omega
theorem VZ {a b:Nat} (ha:a<9223372036854775808) (hb:b<9223372036854775808):lk .i64 (a:Int) (b:Int)=((a&&&b:Nat):Int):=by
 have h1:a&&&b<9223372036854775808:=ec Nat.and_le_left ha;rw[lk,fC,fC,BitVec.toNat_and,jL,jL];show IntKind.i64.wrap ((a%2^64&&&b%2^64:Nat):Int)= _;rw[aV oO,aV oO,IntWalk.i64_in _ oO]
theorem wD {a:Bytes} (h:aa a=true) (i:Nat) (hi:i<4611686018427387904):aA Tryz.prog 134 [.s a,E i] (.b ((num a).testBit i)):=by
 have hv:=aJ a;rw[h]at hv;have hl:=cE h;have e0:(i:Int).tdiv 8=((i/8:Nat):Int):=rfl;have e1:(i:Int).tmod 8=((i%8:Nat):Int):=rfl;have hd:=ko a (i/8) oO;have key:(num a).testBit i=decide (num a/256^(i/8)%256/2^(i%8)%2=1):=by
  rw[j6];congr 1;have e2:256^(i/8)=2^(8*(i/8)):=by rw[show 256=2^8 from rfl,<-jo]
  have e3:2^i=256^(i/8)*2^(i%8):=by rw[e2,<-ct];congr 1;omega
  rw[e3,<-eg];generalize num a/256^(i/8)=z;have h8:i%8<8:=aD _ oC;generalize i%8=j at h8;have:2^j*2^(8-j)=256:=by rw[<-ct,show j+(8-j)=8 by omega]
  have e5:z%256/2^j=z/2^j%2^(8-j):=by rw[<-this,pK]
  rw[e5];have e6:2^(8-j)=2*2^(7-j):=by rw[<-vV];congr 1;omega
  rw[e6,Nat.mod_mul_right_mod]
 obtain⟨d,hdd⟩: ∃d,d=num a/256^(i/8)%256:=⟨_,rfl⟩;rw[<-hdd]at key hd;have hdl:d<256:=by rw[hdd];exact aD _ oC
 have hm: ∀ _:True,(if i%8<=64 then i%8 else 64)=i%8:=fun _=>by split<;>omega
 have ha: ∀ _:True,lk .i64 ((d/2^(i%8):Nat):Int) 1=((d/2^(i%8)%2:Nat):Int):=fun _=>by
  have hle:d/2^(i%8)<=d:=dZ _ _;have:=VZ (a:=d/2^(i%8)) (b:=1) oO oC;rw[Nat.and_one_is_mod]at this;exact this
 have hs:a.length<=i/8->d=0:=fun g=>by rw[hdd,qy a g]
 rw[key];clear key hdd;refine eW Tryz.call134 Tryz.func134 ?_;repeat' first|simp only[go_sem,seval,e0,e1,hm trivial,ha trivial]|refine cP hv ?_|refine cP hd ?_|refine sB ?_|apply xX<;>intro hc|refine⟨oD,?_⟩|exact oD|fail
 ·congr 1;rw[dE];simp only[beq_iff_eq,decide_eq_true_eq];omega
 ·rw[hs oO];simp
end Go.Proofs.YtfdjchnefpefbaaGreatDoor
namespace Go.Dom
structure qQ (a b r0 r1:Nat) (x0 x1 y0 y1:Int):Prop where
 e0:(a:Int)*x0+b*y0=r0
 e1:(a:Int)*x1+b*y1=r1
 g:Nat.gcd r0 r1=Nat.gcd a b
 hx:x1.natAbs*r0+x0.natAbs*r1<=b
 hy:y1.natAbs*r0+y0.natAbs*r1<=a
 bx0:x0.natAbs<=b
 bx1:x1.natAbs<=b
 by0:y0.natAbs<=a+1
 by1:y1.natAbs<=a+1
theorem qQ.start {a b:Nat} (hb:0<b):qQ a b a b 1 0 0 1:=
 ⟨by omega,by omega,rfl,by simp,by simp,by show 1<=b;omega,by simp,by simp,by simp⟩
theorem CJ {x0 x1:Int} {q r0 r1 B:Nat} (hq:q=r0/r1) (h:x1.natAbs*r0+x0.natAbs*r1<=B):(x0-q*x1).natAbs*r1+x1.natAbs*(r0%r1)<=B:=by
 have h1:(x0-q*x1).natAbs<=x0.natAbs+q*x1.natAbs:=by
  have:=Int.natAbs_sub_le x0 (q*x1)
  rwa[kI,Int.natAbs_natCast]at this
 have h2:=cF r1 h1;have h3:r1*q+r0%r1=r0:=by rw[hq];exact gM r0 r1
 have h4:x1.natAbs*r0=x1.natAbs*(r1*q)+x1.natAbs*(r0%r1):=by rw[<-jn,h3]
 have h5:(x0.natAbs+q*x1.natAbs)*r1=x0.natAbs*r1+x1.natAbs*(r1*q):=by
  rw[cu,bc q,bQ,bc q]
 omega
theorem qQ.step {a b r0 r1:Nat} {x0 x1 y0 y1:Int} (h:qQ a b r0 r1 x0 x1 y0 y1) (h1:0<r1):qQ a b r1 (r0%r1) x1 (x0-(r0/r1:Nat)*x1) y1 (y0-(r0/r1:Nat)*y1):=by
 have hx:=CJ (q:=r0/r1) rfl h.hx;have hy:=CJ (q:=r0/r1) rfl h.hy;have le: ∀{n B:Nat} {m:Nat},n*r1+m<=B->n<=B:=fun{n B m} g=>by
  have:=Nat.le_mul_of_pos_right n h1;omega
 refine⟨h.e1,?_,?_,hx,hy,h.bx1,le hx,h.by1,?_⟩
 ·have e0:=h.e0;have e1:=h.e1;have hd:=gM r0 r1;generalize r0/r1=q at*;generalize r0%r1=t at*;have:(r0:Int)=r1*q+t:=by rw[<-hd];simp
  rw[nY,nY];have e3:(a:Int)*(q*x1)=q*(a*x1):=by rw[<-kL,sC (a:Int),kL]
  have e4:(b:Int)*(q*y1)=q*(b*y1):=by rw[<-kL,sC (b:Int),kL]
  have e5:(q:Int)*(a*x1)+q*(b*y1)=r1*q:=by rw[<-kK,e1,sC]
  omega
 ·rw[<-h.g,jT r0 r1,kM r1 r0,jT]
 ·have:=le hy;omega
theorem E6 {a b:Nat} {X Y:Int} (h0:0<=X) (h:(a:Int)*X+b*Y=1):a*(X.natAbs%b)%b=1%b:=by
 obtain⟨n,rfl⟩:=Int.eq_ofNat_of_zero_le h0;rw[Int.natAbs_natCast,jK];have e:((a*n:Nat):Int)%b=(1:Int)%b:=by
  have:((a*n:Nat):Int)=1+b*(-Y):=by simp only[Int.natCast_mul,nQ];omega
  rw[this,pL]
 exact_mod_cast e
theorem LB {a m i j:Nat} (hi:i<m) (hj:j<m) (h1:a*i%m=1%m) (h2:a*j%m=1%m):i=j:=by
 have e1:i*(a*j)%m=i%m:=by rw[<-jK,h2,jK,dG]
 have e2:i*(a*j)%m=j%m:=by rw[<-bQ,bc i a,<-gL,h1,gL,ia]
 rw[aV hi]at e1;rw[aV hj]at e2;omega
noncomputable def ew (a m:Nat):Nat:= @dite _ (∃i,i<m/\a*i%m=1%m) (Classical.propDecidable _) (fun h=>Classical.choose h) (fun _=>0)
theorem gS {a m i:Nat} (hi:i<m) (h:a*i%m=1%m):ew a m=i:=by
 have hx: ∃i,i<m/\a*i%m=1%m:=⟨i,hi,h⟩;unfold ew;rw[dif_pos hx];obtain⟨g1,g2⟩:=Classical.choose_spec hx;exact LB g1 hi g2 h
theorem qQ.fin {a b g:Nat} {x0 x1 y0 y1:Int} (h:qQ a b g 0 x0 x1 y0 y1):g=Nat.gcd a b:=by
 have:=h.g;rwa[B9]at this
theorem qQ.inv {a b:Nat} {x0 x1 y0 y1:Int} (h:qQ a b 1 0 x0 x1 y0 y1) (hb:0<b): ∀X:Int,X=(if x0<0 then x0+b else x0)->0<=X/\X<=b/\X.natAbs%b=ew a b:=by
 intro X hX;have b0:=h.bx0;have h0:0<=X:=by rw[hX];split<;>omega
 refine⟨h0,by rw[hX];split<;>omega,(gS (aD _ hb) ?_).symm⟩
 have e0:=h.e0
 by_cases hx:x0<0
 ·rw[if_pos hx]at hX;refine E6 (Y:=y0-a) h0 ?_;rw[hX,kK,nY,sC (b:Int) a];omega
 ·rw[if_neg hx]at hX;exact E6 (Y:=y0) h0 (by rw[hX];omega)
def C8:Nat->Nat->Nat->Int->Int->Int->Int->Nat×Int×Int
 |0,r0,_,x0,_,y0,_=>(r0,x0,y0)
 |f+1,r0,r1,x0,x1,y0,y1=>if r1=0 then(r0,x0,y0)else C8 f r1 (r0%r1) x1 (x0-(r0/r1:Nat)*x1) y1 (y0-(r0/r1:Nat)*y1)
theorem C9 {a b:Nat}: ∀{f r0 r1:Nat} {x0 x1 y0 y1:Int},r1<f->qQ a b r0 r1 x0 x1 y0 y1-> ∃x' y',qQ a b (C8 f r0 r1 x0 x1 y0 y1).1 0 (C8 f r0 r1 x0 x1 y0 y1).2.1 x' (C8 f r0 r1 x0 x1 y0 y1).2.2 y'
 |0,_,_,_,_,_,_,h,_=>absurd h (mD _)
 |f+1,r0,r1,x0,x1,y0,y1,h,hE=>by
  unfold C8;split
  ·rename_i h0;subst h0;exact⟨x1,y1,hE⟩
  ·rename_i h0;exact C9 (by have:=aD r0 (show 0<r1 by omega);omega) (hE.step (by omega))
structure QZ (a b g:Nat) (x y:Int):Prop where
 z:b=0->x=1/\y=0
 bx:0<b->x.natAbs<=b
 by':0<b->y.natAbs<=max a 1
 e:(a:Int)*x+b*y=g
 g:g=Nat.gcd a b
theorem QZ.base (a:Nat):QZ a 0 a 1 0:=⟨fun _=>⟨rfl,rfl⟩,fun h=>by omega,fun h=>by omega,by simp,by simp⟩
theorem QZ.step {a b g:Nat} {x y:Int} (hb:0<b) (h:QZ b (a%b) g x y):QZ a b g y (x-(a/b:Nat)*y):=by
 have hd:=gM a b;have hg:g=Nat.gcd a b:=by rw[h.g,jT a b,kM b a,jT]
 have he:=h.e;have e1:(a:Int)=b*(a/b:Nat)+(a%b:Nat):=by
  have:((b*(a/b)+a%b:Nat):Int)=(a:Int):=by rw[hd]
  rw[<-this];simp
 rcases j5 (a%b)with h0|h0
 ·obtain⟨rfl,rfl⟩:=h.z h0;refine⟨by omega,by simp,fun _=>by simp;omega,?_,hg⟩
  simp only[we,Int.sub_zero,Int.mul_one,wc,Int.add_zero]at he⊢;exact he
 ·have bx:=h.bx h0;have by1:y.natAbs<=b:=by have:=h.by' h0;omega
  refine⟨by omega,fun _=>by1,fun _=> ?_,?_,hg⟩
  ·have h1:(x-(a/b:Nat)*y).natAbs<=x.natAbs+a/b*y.natAbs:=by
    have:=Int.natAbs_sub_le x ((a/b:Nat)*y)
    rwa[kI,Int.natAbs_natCast]at this
   have h2:=iw (a/b) by1;have h3:a/b*b=b*(a/b):=bc _ _;omega
  ·generalize a/b=q at*;generalize a%b=t at*;rw[nY,e1,Int.add_mul];have e3:(b:Int)*q*y=b*(q*y):=kL ..;omega
noncomputable def cR (m x:Nat) (ng:Bool) (e:Nat):Nat:=(if ng then ew x m else x)^e%m
def dc (m x:Nat):Prop:= ∃i,i<m/\x*i%m=1%m
theorem dc.inv {m x:Nat} (h:dc m x):ew x m<m/\x*ew x m%m=1%m:=by
 obtain⟨i,h1,h2⟩:=h;rw[gS h1 h2];exact⟨h1,h2⟩
theorem dc.V1 {m x:Nat} (h:dc m x) (hm:0<m):dc m (ew x m):=
 ⟨x%m,aD _ hm,by rw[jK,bc];exact h.inv.2⟩
theorem dc.pow {m x:Nat} (h:dc m x) (hm:0<m) (e:Nat):dc m (x^e%m)/\ew (x^e%m) m=ew x m^e%m:=by
 obtain⟨h1,h2⟩:=h.inv;have key:x^e%m*(ew x m^e%m)%m=1%m:=by
  rw[<-bM,<-pH,iM,h2,<-iM,sD]
 have hl:ew x m^e%m<m:=aD _ hm;exact⟨⟨_,hl,key⟩,gS hl key⟩
theorem dc.inv2 {m x:Nat} (h:dc m x) (hm:0<m):ew (ew x m) m=x%m:=
 gS (aD _ hm) (by rw[jK,bc];exact h.inv.2)
theorem dc.cR {m x:Nat} (h:dc m x) (hm:0<m) (ng:Bool) (e:Nat):dc m (Dom.cR m x ng e):=by
 unfold Dom.cR;cases ng
 ·exact(h.pow hm e).1
 ·exact((h.V1 hm).pow hm e).1
theorem dc.mul {m x y:Nat} (h:dc m x) (g:dc m y) (hm:0<m):dc m (x*y%m):=by
 obtain⟨i,h1,h2⟩:=h;obtain⟨j,g1,g2⟩:=g;refine⟨i*j%m,aD _ hm,?_⟩;rw[<-bM];have e:x*y*(i*j)=(x*i)*(y*j):=by
  rw[bQ,bQ];congr 1;rw[<-bQ,bc y i,bQ]
 rw[e,bM,h2,g2,<-bM,ia]
theorem ky (m x a b:Nat):(x^a%m)^b%m=x^(a*b)%m:=by rw[<-iM,<-jo]
theorem I9 {m x:Nat} (h:dc m x) (hm:0<m) (n1 n2:Bool) (a b:Nat):cR m (cR m x n1 a) n2 b=cR m x (n1 !=n2) (a*b):=by
 cases n1<;>cases n2
 ·simp only[cR,aX,if_false,bne_self_eq_false,ky]
 ·have:=(h.pow hm a).2;simp only[cR,aX,if_false,if_true,this,ky,Bool.bne_true,bZ]
 ·simp only[cR,aX,if_false,if_true,ky,Bool.bne_false]
 ·have h1:=((h.V1 hm).pow hm a).2;rw[h.inv2 hm]at h1;simp only[cR,if_true,bne_self_eq_false,aX,if_false,h1];rw[ky,<-iM]
theorem tV (m x:Nat) (n:Bool):cR m x n 0=1%m:=by simp[cR]
theorem gF {m x:Nat} (hm:0<m) (h:Nat.gcd x m=1):dc m x:=by
 have key: ∀(n a b:Nat),b<=n-> ∃X Y:Int,(a:Int)*X+b*Y=Nat.gcd a b:=by
  intro n
  induction n with
  |zero=>
   intro a b hb;obtain rfl:b=0:=by omega
   exact⟨1,0,by simp⟩
  |succ n ih=>
   intro a b hb;rcases j5 b with rfl|h0
   ·exact⟨1,0,by simp⟩
   ·obtain⟨X,Y,e⟩:=ih b (a%b) (by have:=aD a h0;omega)
    refine⟨Y,X-(a/b:Nat)*Y,?_⟩;have hg:Nat.gcd b (a%b)=Nat.gcd a b:=by rw[jT a b,kM b a,jT]
    rw[<-hg,<-e];have e1:(a:Int)=b*(a/b:Nat)+(a%b:Nat):=by
     have:((b*(a/b)+a%b:Nat):Int)=(a:Int):=by rw[gM]
     rw[<-this];simp
    generalize a/b=q at*;generalize a%b=t at*;rw[nY,e1,Int.add_mul];have e3:(b:Int)*q*Y=b*(q*Y):=kL ..;omega
 obtain⟨X,Y,e⟩:=key m x m (an _);rw[h]at e;refine⟨(X%(m:Int)).toNat,?_,?_⟩
 ·have:=gZ X (show(0:Int)<m by omega)
  have:=fS X (show(m:Int)≠0 by omega)
  omega
 ·have h0:=fS X (show(m:Int)≠0 by omega)
  have e2:((x*(X%(m:Int)).toNat:Nat):Int)%m=(1:Int)%m:=by
   rw[Int.natCast_mul,gV h0,Int.mul_emod,Int.emod_emod_of_dvd _ (Int.dvd_refl _),<-Int.mul_emod];have:(x:Int)*X=1+m*(-Y):=by rw[nQ];simp at e;omega
   rw[this,pL]
  exact_mod_cast e2
noncomputable def dU (m x:Nat) (z:Int):Nat:=cR m x (decide (z<0)) z.natAbs
theorem nK {m x y:Nat} (h:x*y%m=1%m) (n k:Nat):x^(n+k)*y^k%m=x^n%m:=by
 rw[ct,bQ,<-pH,bM,iM (x*y) k m,h,<-iM,sD,<-bM,dG]
theorem kH (m x:Nat) (n:Nat):dU m x (n:Int)=x^n%m:=by
 unfold dU cR;rw[decide_eq_false (by omega)];simp
theorem jh {m x:Nat} (n:Nat):dU m x (-(n:Int))=ew x m^n%m:=by
 unfold dU cR
 by_cases h:n=0
 ·subst h;simp
 ·rw[decide_eq_true (by omega)];simp
theorem x9 {m x:Nat} (h:dc m x) (hm:0<m) (a b:Int):dU m x a*dU m x b%m=dU m x (a+b):=by
 obtain⟨h1,h2⟩:=h.inv;have h3:ew x m*x%m=1%m:=by rw[bc];exact h2
 rcases Int.eq_nat_or_neg a with⟨n,rfl|rfl⟩<;>rcases Int.eq_nat_or_neg b with⟨k,rfl|rfl⟩
 ·rw[kH,kH,<-bM,<-ct,<-kH];simp
 ·rw[kH,jh,<-bM];rcases Nat.le_total k n with hk|hk
  ·obtain⟨d,rfl⟩:=vP hk;rw[fT k d,nK h2,<-kH];congr 1;omega
  ·obtain⟨d,rfl⟩:=vP hk;rw[bc,fT n d,nK h3,<-jh];congr 1;omega
 ·rw[kH,jh,<-bM];rcases Nat.le_total k n with hk|hk
  ·obtain⟨d,rfl⟩:=vP hk;rw[fT k d,nK h3,<-jh];congr 1;omega
  ·obtain⟨d,rfl⟩:=vP hk;rw[bc,fT n d,nK h2,<-kH];congr 1;omega
 ·rw[jh,jh,<-bM,<-ct,<-jh];congr 1;omega
theorem Mo {m x:Nat} (h:dc m x) (hm:0<m) (w c:Nat):dU m (x^w%m) (-(c:Int))=dU m x (-((c*w:Nat):Int)):=by
 rw[jh,jh,(h.pow hm w).2,ky,bc c w]
theorem DS {m x:Nat} (h:dc m x) (hm:0<m) (a:Int) (w c:Nat):dU m (x^w%m) (-(c:Int))*dU m x (a+(c*w:Nat))%m=dU m x a:=by
 rw[Mo h hm,x9 h hm];congr 1;omega
def pp (l:List (Nat×Nat)) (k:Nat):Nat:=l.foldr (fun p a=>p.1^(p.2/2^k)*a) 1
def pb (l:List (Nat×Nat)) (k:Nat):Nat:=l.foldr (fun p a=>p.1^(p.2/2^k%2)*a) 1
theorem vz (p:Nat×Nat) (l:List (Nat×Nat)) (k:Nat):pp (p::l) k=p.1^(p.2/2^k)*pp l k:=rfl
theorem Bu (p:Nat×Nat) (l:List (Nat×Nat)) (k:Nat):pb (p::l) k=p.1^(p.2/2^k%2)*pb l k:=rfl
theorem P0 (l:List (Nat×Nat)) (p:Nat×Nat) (k:Nat):pb (l++[p]) k=pb l k*p.1^(p.2/2^k%2):=by
 induction l with
 |nil=>simp[pb]
 |cons q l ih=>rw[List.cons_append,Bu,Bu,ih,bQ]
theorem P2 (l:List (Nat×Nat)) (k:Nat):pp l k=pp l (k+1)*pp l (k+1)*pb l k:=by
 induction l with
 |nil=>rfl
 |cons p l ih=>
  rw[vz,vz,Bu,ih];have e:p.2/2^k=p.2/2^(k+1)+p.2/2^(k+1)+p.2/2^k%2:=by
   have:p.2/2^(k+1)=p.2/2^k/2:=by rw[Nat.pow_succ,eg]
   omega
  rw[e,ct,ct,<-e];generalize p.1^(p.2/2^(k+1))=a;generalize p.1^(p.2/2^k%2)=b;generalize pp l (k+1)=c;generalize pb l k=d;simp only[bQ,Nat.mul_left_comm,bc]
theorem Uh {l:List (Nat×Nat)} {k:Nat} (h: ∀p∈l,p.2<2^k):pp l k=1:=by
 induction l with
 |nil=>rfl
 |cons p l ih=>
  rw[vz,ih fun q hq=>h q (jm _ hq),gI (h p (sk ..))];rfl
noncomputable def Q6 (M:Nat) (x:Nat) (e:Bool×Bytes):Nat:=if e.1 then ew x M else x
noncomputable def Ey (M:Nat) (l:List (Nat×(Bool×Bytes))):Nat:=pp (l.map fun p=>(Q6 M p.1 p.2,num p.2.2)) 0%M
theorem P4 (M:Nat):Ey M []=1%M:=rfl
theorem Mq (p:Nat×Nat) (l:List (Nat×Nat)):pp (p::l) 0=p.1^p.2*pp l 0:=by rw[vz,Nat.pow_zero,iS]
theorem yf (M:Nat) (x:Nat) (e:Bool×Bytes) (l:List (Nat×(Bool×Bytes))):Ey M ((x,e)::l)=cR M x e.1 (num e.2)*Ey M l%M:=by
 unfold Ey cR;rw[aS,Mq,<-bM];rfl
theorem Hh (M:Nat) (x:Nat) (e:Bool×Bytes):Ey M [(x,e)]=cR M x e.1 (num e.2):=by
 rw[yf,P4,jK,dG];unfold cR;rw[dq]
theorem tU (m x:Nat):dU m x 0=1%m:=tV _ _ _
theorem nf {m x:Nat} (h:dc m x) (hm:0<m) (a b:Int):dU m (dU m x a) b=dU m x (a*b):=by
 unfold dU;rw[I9 h hm,kI]
 by_cases h0:a.natAbs*b.natAbs=0
 ·rw[h0,tV,tV]
 ·congr 1;have ha:a≠0:=fun e=>h0 (by simp[e])
  have hb:b≠0:=fun e=>h0 (by simp[e])
  rw[dE];simp only[bne_iff_ne,ne_eq,decide_eq_decide,decide_eq_true_eq];rcases Int.lt_or_gt_of_ne ha with h1|h1<;>rcases Int.lt_or_gt_of_ne hb with h2|h2
  ·have:=Int.mul_pos_of_neg_of_neg h1 h2;generalize a*b=c at*;omega
  ·have:=Int.mul_neg_of_neg_of_pos h1 h2;generalize a*b=c at*;omega
  ·have:=Int.mul_neg_of_pos_of_neg h1 h2;generalize a*b=c at*;omega
  ·have:=Int.mul_pos h1 h2;generalize a*b=c at*;omega
theorem Lz {m x y:Nat} (h:dc m x) (g:dc m y) (hm:0<m):ew (x*y%m) m=ew x m*ew y m%m:=by
 refine gS (aD _ hm) ?_;rw[<-bM,show x*y*(ew x m*ew y m)=(x*ew x m)*(y*ew y m) by rw[bQ,bQ];congr 1;rw[<-bQ,bc y,bQ],bM,h.inv.2,g.inv.2,<-bM,ia]
theorem Mn {m x y:Nat} (h:dc m x) (g:dc m y) (hm:0<m) (z:Int):dU m (x*y%m) z=dU m x z*dU m y z%m:=by
 unfold dU cR
 cases decide (z<0)
 ·simp only[aX,if_false];rw[<-iM,pH,bM]
 ·simp only[if_true];rw[Lz h g hm,<-iM,pH,bM]
theorem Au {m x:Nat} (h:dc m x) (hm:0<m) (z:Int):dc m (dU m x z):=h.cR hm _ _
theorem oN (m x:Nat) (z:Int):dU m x z%m=dU m x z:=dq _ _
noncomputable def yS (m:Nat):List (Nat×Int)->Nat
 |[]=>1%m
 |p::l=>dU m p.1 p.2*yS m l%m
theorem P3 (m:Nat) (l:List (Nat×Int)):yS m l%m=yS m l:=by cases l<;>exact dq _ _
theorem Eo {m:Nat} (hm:0<m):dc m (1%m):=⟨1%m,aD _ hm,by rw[<-bM,ia]⟩
variable {α:Type} {m:Nat} (b:α->Nat)
theorem ya {x o:Nat} (hx:dc m x) (hm:0<m) (ho:x^o%m=1%m) {a c:Int} (h:(o:Int)∣a-c):dU m x a=dU m x c:=by
 obtain⟨k,hk⟩:=h;have e:a=c+o*k:=by omega
 have h1:dU m x (o*k)=1%m:=by
  rw[<-nf hx hm,kH,ho];have:=nf (Eo hm) hm 0 k
  rwa[Int.zero_mul,tU]at this
 rw[e,<-x9 hx hm,h1,jK,dG,oN]
theorem P5 (l:List (Nat×Int)) (g:Nat×Int->Nat×(Bool×Bytes)) (hg: ∀p,g p=(p.1,(decide (p.2<0),aO p.2.natAbs))):Ey m (l.map g)=yS m l:=by
 induction l with
 |nil=>rfl
 |cons p l ih=>rw[aS,hg,yf,ih,yS,aG];rfl
end Go.Dom
namespace Go.Proofs.YtfdjchnefpefbaaGreatDoor
open Go Go.Dom
set_option maxRecDepth 100000
def zs (x:Int):Bool:=decide (x<0)
def zb (x:Int):Bytes:=aO x.natAbs
abbrev Z (x:Int):PV:= .agg [.b (zs x), .s (zb x)]
def cZ:Nat:=340282366920938463463374607431768211456
theorem BV:cZ<=dw:=by unfold dw cZ;decide+kernel
theorem Er:cZ*cZ<=dw:=by unfold dw cZ;decide+kernel
theorem vB {n:Nat} (h:n<dw):aa (aO n)=true:=py h
theorem lH (n:Nat):zb (n:Int)=aO n:=rfl
theorem lJ (n:Nat):zs (n:Int)=false:=by simp[zs]
theorem Bq (x:Int):num (zb x)=x.natAbs:=aG _
theorem UW (x:Int):(zb x==([]:Bytes))=decide (x=0):=by
 unfold zb;rw[dE];simp[fW]
theorem U4 {x:Int} (h:x.natAbs<dw):(aa (zb x)&& !(zs x&&zb x==[]))=true:=by
 rw[UW,show aa (zb x)=true from vB h]
 simp[zs];omega
theorem ZO (b:Bool) (n:Nat):(.agg [.b (b&& !(aO n==[])),N n]:PV)=Z (if b then-(n:Int)else n):=by
 by_cases h:n=0
 ·subst h;cases b<;>rfl
 ·have e:(aO n==([]:Bytes))=false:=rG h;cases b
  ·simp[Z,zs,zb]
  ·have:decide (-(n:Int)<0)=true:=decide_eq_true oO;simp[Z,zs,zb,e,h];omega
theorem Xl (x y:Int):(if(zs x !=zs y)then-((x.natAbs*y.natAbs:Nat):Int)else((x.natAbs*y.natAbs:Nat):Int))=x*y:=by
 rw[Int.natCast_mul];unfold zs
 by_cases h1:x<0<;>by_cases h2:y<0<;>simp only[h1,h2,decide_true,decide_false,bne_self_eq_false,aX,if_false]
 ·have e1:(x.natAbs:Int)= -x:=by omega
  have e2:(y.natAbs:Int)= -y:=by omega
  rw[e1,e2,Int.neg_mul_neg]
 ·have e1:(x.natAbs:Int)= -x:=by omega
  have e2:(y.natAbs:Int)=y:=by omega
  simp only[Bool.bne_false,if_true];rw[e1,e2,sj,Int.neg_neg]
 ·have e1:(x.natAbs:Int)=x:=by omega
  have e2:(y.natAbs:Int)= -y:=by omega
  simp only[Bool.false_bne,if_true];rw[e1,e2,nQ,Int.neg_neg]
 ·have e1:(x.natAbs:Int)=x:=by omega
  have e2:(y.natAbs:Int)=y:=by omega
  rw[e1,e2]
theorem RS {x y:Int} (h:zs x=zs y):(if zs x then-((x.natAbs+y.natAbs:Nat):Int)else((x.natAbs+y.natAbs:Nat):Int))=x+y:=by
 unfold zs at*
 by_cases h1:x<0<;>by_cases h2:y<0<;>simp[h1,h2]at h⊢ <;>omega
theorem NN {x y:Int} (h:zs x≠zs y) (hl:y.natAbs<=x.natAbs):(if zs x then-((x.natAbs-y.natAbs:Nat):Int)else((x.natAbs-y.natAbs:Nat):Int))=x+y:=by
 unfold zs at*
 by_cases h1:x<0<;>by_cases h2:y<0<;>simp[h1,h2]at h⊢ <;>omega
theorem RT {x y:Int} (h:zs x≠zs y) (hl:x.natAbs<=y.natAbs):(if zs y then-((y.natAbs-x.natAbs:Nat):Int)else((y.natAbs-x.natAbs:Nat):Int))=x+y:=by
 rw[Int.add_comm];exact NN (kP h) hl
theorem Xm (y:Int):(if !zs y then-(y.natAbs:Int)else(y.natAbs:Int))= -y:=by
 unfold zs
 by_cases h:y<0<;>simp[h]<;>omega
theorem NP (n m:Nat):((n:Int)/(m:Int)=((n/m:Nat):Int))/\(((n:Int)%(m:Int)).toNat=n%m):=⟨rfl,rfl⟩
theorem NO {n m:Nat} (hm:0<m) (h0:n%m=0):(-(n:Int))/(m:Int)= -((n/m:Nat):Int)/\((-(n:Int))%(m:Int)).toNat=0:=by
 have hd:=gM n m;have e: -(n:Int)=0+(m:Int)*(-((n/m:Nat):Int)):=by
  rw[nQ,<-Int.natCast_mul];omega
 have hm':(m:Int)≠0:=by omega
 constructor
 ·rw[e,vZ _ _ hm'];simp
 ·rw[e,pL];simp
theorem JG {n m:Nat} (hm:0<m) (h0:n%m≠0):(-(n:Int))/(m:Int)= -((n/m+1:Nat):Int)/\((-(n:Int))%(m:Int)).toNat=m-n%m:=by
 have hd:=gM n m;have hl:=aD n hm;generalize n%m=r at*;have e: -(n:Int)=((m-r:Nat):Int)+(m:Int)*(-((n/m+1:Nat):Int)):=by
  rw[nQ,<-Int.natCast_mul,jn,dG];omega
 have hm':(m:Int)≠0:=by omega
 have h1:((m-r:Nat):Int)/(m:Int)=0:=vK oO oO;have h2:((m-r:Nat):Int)%(m:Int)=((m-r:Nat):Int):=Int.emod_eq_of_lt oO oO;constructor
 ·rw[e,vZ _ _ hm',h1,wc]
 ·rw[e,pL,h2];omega
theorem jW {a b:Nat}:(0<=aU a b)↔b<=a:=by unfold aU;split<;>(try split)<;>omega
end Go.Proofs.YtfdjchnefpefbaaGreatDoor
