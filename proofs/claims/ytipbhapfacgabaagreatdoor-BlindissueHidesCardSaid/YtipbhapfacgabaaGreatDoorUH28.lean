/- Part of the proof. -/
import Derived.Test.YtipbhapfacgabaaGreatDoorUH27
set_option linter.all false
set_option maxHeartbeats 16000000
set_option maxRecDepth 100000
namespace Go.Proofs.Tryz
open Go Go.Dom Go.Num
variable {a b:Nat} {x x1 y:Int}
theorem Q7 (h:a*b<dP) (ha:a<dP) (hb:b<dP):aF 154 [N a,N b] (.tup [N (a*b),E 0]):=by
 have:=BH (aZ a) (aZ b);simp only[nC,vB ha,vB hb,dW,aA,aP,h]at this;exact this
theorem TJ (h:a+b<dP):aF 73 [N a,N b] (.tup [N (a+b),E 0]):=by
 have:=FX (aZ a) (aZ b);simp only[l8,vB (show a<dP by omega),vB (show b<dP by omega),dW,aA,aP,h]at this
 exact this
theorem Al (h:b<=a) (ha:a<dP):aF 143 [N a,N b] (.tup [N (a-b),E 0]):=by
 have:=BJ (aZ a) (aZ b);simp only[CO,vB ha,vB (show b<dP by omega),dW,aA,aP,h]at this
 exact this
theorem Ef (ha:a<dP) (hb:b<dP):aF 39 [N a,N b] (E (bK a b)):=by
 have:=lY (aZ a) (aZ b);simp only[vB ha,vB hb,dW,aA,aP]at this;exact this
theorem CX (h:x.natAbs<dP):aF 128 [Z x] (.b true):=by
 have:=ib (zs x) (zb x)
 rwa[Y3 h]at this
theorem Mk (hx:x.natAbs<dP) (hy:y.natAbs<dP):aF 313 [Z x,Z y] (.b true):=by
 have v1:=CX hx;have v2:=CX hy;refine eW call313 func313 ?_;repeat' first|simp only[go_sem,seval,Z]|refine cP v1 ?_|refine cP v2 ?_|refine oE ?_|apply xX<;>intro hc
theorem yE (b:Bool) (n:Nat) {z:Int} (h:(if b then-(n:Int)else n)=z):aF 91 [.b b,N n] (Z z):=by
 have:=wF b (aZ n);rw[zmk,h]at this;exact this
theorem Au {n:Nat} (h:n<dP):aF 41 [N n] (Z n):=mJ (vB h)
theorem TD:aF 64 [E 1] (Z 1):=by
 have h1:=pK 1 oC;have hm:=yE false 1 rfl;refine eW call64 func64 ?_;repeat' first|simp only[go_sem,seval,Z]|refine cP h1 ?_|refine cP hm ?_|refine oE ?_|apply xX<;>intro hc
theorem Zj:aF 64 [E 0] (Z 0):=by
 have h1:=pK 0 oC;have hm:=yE false 0 rfl;refine eW call64 func64 ?_;repeat' first|simp only[go_sem,seval,Z]|refine cP h1 ?_|refine cP hm ?_|refine oE ?_|apply xX<;>intro hc
theorem Zi (h:y.natAbs<dP):aF 66 [Z y] (Z (-y)):=by
 have hv:=CX h;have hm:=yE (!zs y) y.natAbs (aad y);refine eW call66 func66 ?_;repeat' first|simp only[go_sem,seval,Z]|refine cP hv ?_|refine cP hm ?_|refine oE ?_|apply xX<;>intro hc
theorem Nj (hx:x.natAbs<dP) (hy:y.natAbs<dP) (h:x.natAbs*y.natAbs<dP):aF 240 [Z x,Z y] (.tup [Z (x*y),E 0]):=by
 have hb:=Mk hx hy;have hm:=Q7 h hx hy;have hk:=yE (zs x !=zs y) (x.natAbs*y.natAbs) (aac x y);refine eW call240 func240 ?_;repeat' first|simp only[go_sem,seval,Z]|refine cP hb ?_|refine cP hm ?_|refine cP hk ?_|refine oE ?_|apply xX<;>intro hc
theorem Nk (hx:x.natAbs<gN) (hy:y.natAbs<gN):aF 240 [Z x,Z y] (.tup [Z (x*y),E 0]):=
 have hw:=Ln
 Nj oO oO (ba (gK hx hy) Sc)
theorem EI (hlim:x.natAbs+y.natAbs<dP):aF 242 [Z x,Z y] (.tup [Z (x+y),E 0]):=by
 have hb0:=Mk (x:=x) (y:=y) oO oO
 by_cases hs:zs x=zs y
 ·have ha:=TJ hlim;have hk:=yE (zs x) (x.natAbs+y.natAbs) (YW hs);have hb: ∀ _:True,(zs x==zs y)=true:=fun _=>by rw[hs];simp
  clear hs hlim;refine eW call242 func242 ?_;repeat' first|simp only[go_sem,seval,Z,hb oT]|refine cP hb0 ?_|refine cP ha ?_|refine cP hk ?_|refine oE ?_|apply xX<;>intro hc
 have hb: ∀ _:True,(zs x==zs y)=false:=fun _=>by simpa using hs
 have hcm:=Ef (a:=x.natAbs) (b:=y.natAbs) oO oO
 by_cases hl:y.natAbs<=x.natAbs
 ·have hd:=Al hl oO;have hk:=yE (zs x) (x.natAbs-y.natAbs) (Tf hs hl);have hg: ∀ _:True,decide (bK x.natAbs y.natAbs<0)=false:=fun _=>b9 (fun h=>by rw[ji]at h;omega)
  generalize bK x.natAbs y.natAbs=cm at*;clear hs hlim;refine eW call242 func242 ?_;repeat' first|simp only[go_sem,seval,Z,hb oT,hg oT]|refine cP hb0 ?_|refine cP hcm ?_|refine cP hd ?_|refine cP hk ?_|refine oE ?_|apply xX<;>intro hc
 ·have hd:=Al (a:=y.natAbs) (b:=x.natAbs) oO oO;have hk:=yE (zs y) (y.natAbs-x.natAbs) (YX hs oO);have hg: ∀ _:True,decide (bK x.natAbs y.natAbs<0)=true:=fun _=>aS (by rw[ji];omega)
  generalize bK x.natAbs y.natAbs=cm at*;clear hs hlim;refine eW call242 func242 ?_;repeat' first|simp only[go_sem,seval,Z,hb oT,hg oT]|refine cP hb0 ?_|refine cP hcm ?_|refine cP hd ?_|refine cP hk ?_|refine oE ?_|apply xX<;>intro hc
theorem Xt (hx:x.natAbs<gN) (hy:y.natAbs<gN):aF 242 [Z x,Z y] (.tup [Z (x+y),E 0]):=
 EI (ba (show _<gN*gN by unfold gN at*;omega) Sc)
theorem SM (hlim:x.natAbs+y.natAbs<dP):aF 241 [Z x,Z y] (.tup [Z (x-y),E 0]):=by
 have hb:=Mk (x:=x) (y:=y) oO oO;have hn:=Zi (y:=y) oO;have ha:=EI (x:=x) (y:= -y) oO;rw[<-Int.sub_eq_add_neg]at ha;refine eW call241 func241 ?_;repeat' first|simp only[go_sem,seval,Z]|refine cP hb ?_|refine cP hn ?_|refine cP ha ?_|refine oE ?_|apply xX<;>intro hc
theorem SN (hx:x.natAbs<gN) (hy:y.natAbs<gN):aF 241 [Z x,Z y] (.tup [Z (x-y),E 0]):=
 SM (ba (show _<gN*gN by unfold gN at*;omega) Sc)
theorem tu:(2^64)<=gN:=by decide
theorem oY:(2^64)<=dP:=by unfold dP;decide+kernel
abbrev Z2 (x y:Int):PV:= .agg [.b (zs x), .s (zb x), .b (zs y), .s (zb y)]
theorem H3 {q:Nat} {x0:Int} (hq:q<(2^64)) (h0:x0.natAbs<(2^64)+1) (h1:x1.natAbs<(2^64)+1) (hp:(((q:Nat):Int)*x1).natAbs<gN):aF 239 [Z2 x0 x1, .pt (.agg [N q]) 0] (Z2 x1 (x0-(q:Nat)*x1)):=by
 have w1:=tu;have w2:=oY;have hf:=Au (n:=q) oO;have hm:=Nk (x:=(q:Int)) (y:=x1) (by rw[Int.natAbs_natCast];omega) (by unfold gN;omega)
 have hs:=SN (x:=x0) (y:=(q:Int)*x1) (by unfold gN;omega) hp
 generalize (q:Int)*x1=v at*;generalize x0-v=u at*;refine eW call239 func239 ?_;repeat' first|simp only[go_sem,seval,Z,DN,DK]|refine cP hf ?_|refine cP hm ?_|refine cP hs ?_|refine oE ?_|apply xX<;>intro hc
theorem IK {r0 r1 B:Nat} (h0:0<r1) (h:x1.natAbs*r0<=B):((((r0/r1:Nat):Int))*x1).natAbs<=B:=by
 rw[qx,Int.natAbs_natCast];have h1:r0/r1<=r0:=fF _ _;have:=lu x1.natAbs h1;rw[bw]at this;omega
theorem DV (ha:a<(2^64)) (hb:b<(2^64)) (h0:0<b): ∃X Y:Int,(Nat.gcd a b=1->X.natAbs<(2^64)/\X.natAbs%b=iQ a b)/\aF 162 [N a,N b] (.tup [N (Nat.gcd a b),Z X,Z Y,E 0]):=by
 have w1:=tu;have w2:=oY;obtain⟨x',y',hE⟩:=Ep (a:=a) (b:=b) (f:=b+1) oO (rX.start h0);obtain⟨res,hres⟩: ∃res,res=Eo (b+1) a b 1 0 0 1:=⟨_,rfl⟩;rw[<-hres]at hE;obtain⟨g,X0,Y0⟩:=res;simp only at hE;have hg:=hE.fin;have hgp:0<g:=by rw[hg];exact Nat.gcd_pos_of_pos_right _ h0
 have bx:=hE.bx0;have by':=hE.by0
 have hm1:b/g<=b:=fF _ _;have hk1:a/g<=a:=fF _ _;have v1:=aD (aZ a);have v2:=aD (aZ b);rw[vB (show a<dP by omega)]at v1
 rw[vB (show b<dP by omega)]at v2
 have e0:(aZ b==([]:Bytes))=false:=yQ oO;have d1:=jC (a:=b) (b:=g) hb (by have:g<=b:=(by rw[hg];exact Nat.gcd_le_right _ h0);omega) hgp
 have d2:=jC (a:=a) (b:=g) ha (by have:g<=b:=(by rw[hg];exact Nat.gcd_le_right _ h0);omega) hgp
 have f1:=Au (n:=b/g) oO;have f2:=Au (n:=a/g) oO;have ad:=Xt (x:=X0) (y:=((b/g:Nat):Int)) (by unfold gN;omega) (by rw[Int.natAbs_natCast];unfold gN;omega)
 have sb:=SN (x:=Y0) (y:=((a/g:Nat):Int)) (by unfold gN;omega) (by rw[Int.natAbs_natCast];unfold gN;omega)
 have o1:=TD;have o0:=Zj;refine⟨if X0<0 then X0+((b/g:Nat):Int)else X0,if X0<0 then Y0-((a/g:Nat):Int)else Y0,?_,?_⟩
 ·intro h1;have g1:g=1:=by rw[hg];exact h1
  subst g1;obtain⟨k1,k3,k2⟩:=hE.inv h0 _ rfl;rw[jO];exact⟨oO,k2⟩
 ·rw[<-hg];refine eW call162 func162 ?_;simp only[go_sem,seval,Z];repeat' first|simp only[go_sem,seval,e0,Z]|refine cP v1 ?_|refine cP v2 ?_|refine cP o1 ?_|refine cP o0 ?_|refine oE ?_|apply xX<;>intro hc
  refine aq (α:=Nat×Nat×Nat×Int×Int×Int×Int) (fun s=>s.2.2.1) (fun s=>⟨[(0, .v (N a)),(1, .v (N b)),(5, .p 1001 0 0),(6, .p 1002 0 0),(8, .p 1017 0 0),(9, .p 1025 0 0),(10, .p 1026 0 0)],[(1001,⟨0,[.v (.b false), .v (.s [])],false,some 94⟩),(1002,⟨0,[.v (.b false), .v (.s [])],false,some 94⟩),(1017,⟨0,[.v (N s.2.1), .v (N s.2.2.1)],false,some 264⟩),(1025,⟨0,[.v (.b (zs s.2.2.2.1)), .v (.s (zb s.2.2.2.1)), .v (.b (zs s.2.2.2.2.1)), .v (.s (zb s.2.2.2.2.1))],false,some 287⟩),(1026,⟨0,[.v (.b (zs s.2.2.2.2.2.1)), .v (.s (zb s.2.2.2.2.2.1)), .v (.b (zs s.2.2.2.2.2.2)), .v (.s (zb s.2.2.2.2.2.2))],false,some 287⟩)],_⟩) (fun s=>s.2.2.1<s.1/\rX a b s.2.1 s.2.2.1 s.2.2.2.1 s.2.2.2.2.1 s.2.2.2.2.2.1 s.2.2.2.2.2.2/\s.2.1<(2^64)/\s.2.2.1<(2^64)/\Eo s.1 s.2.1 s.2.2.1 s.2.2.2.1 s.2.2.2.2.1 s.2.2.2.2.2.1 s.2.2.2.2.2.2=(g,X0,Y0)) (b+1,a,b,1,0,0,1) (fun _=>aB _) ⟨by show b<b+1;omega,rX.start h0,ha,hb,hres.symm⟩ ?_ ?_
  ·exact lE
  ·rintro⟨f,r0,r1,x0,x1,y0,y1⟩ ⟨hf,hS,hr0,hr1,heq⟩ R hR;simp only at hf hS hr0 hr1 heq
   cases f with
   |zero=>omega
   |succ f=>
    unfold Eo at heq
    by_cases hz:r1=0
    ·subst hz;rw[ah rfl]at heq;simp only[dJ]at heq;obtain⟨rfl,rfl,rfl⟩:=heq
     by_cases hx:x0<0
     ·have hzs:zs x0=true:=by simp[zs,hx]
      simp only[Z,hzs,DN,DK]at ad f1 f2;simp only[Z,DN,DK]at sb;rw[ah hx,ah hx];clear hR hres hE hS;repeat' first|simp only[go_sem,seval,Cy,Z,hzs,DN,DK]|refine cP d1 ?_|refine cP d2 ?_|refine cP f1 ?_|refine cP f2 ?_|refine cP ad ?_|refine cP sb ?_|refine oE ?_|apply xX<;>intro hc
     ·have hzs:zs x0=false:=by simp[zs,hx]
      rw[af hx,af hx];clear hR hres hE hS;repeat' first|simp only[go_sem,seval,Cy,Z,hzs]|refine oE ?_|apply xX<;>intro hc
    ·rw[af hz]at heq;have hpos:0<r1:=oO;have hst:=hS.step hpos;have hml:=aL r0 hpos;have hq:r0/r1<=r0:=fF _ _;have dv:=jC hr0 hr1 hpos;have b1:=hS.bx0;have b2:=hS.bx1;have b3:=hS.by0;have b4:=hS.by1;have b5:=hS.hx;have b6:=hS.hy;have c1:=H3 (q:=r0/r1) (x0:=x0) (x1:=x1) oO oO oO (by have:=IK (r1:=r1) hpos (show x1.natAbs*r0<=b by omega);unfold gN;omega)
     have c2:=H3 (q:=r0/r1) (x0:=y0) (x1:=y1) oO oO oO (by have:=IK (r1:=r1) hpos (show y1.natAbs*r0<=a by omega);unfold gN;omega)
     have en:=yQ hz;have hgo:=hR (f,r1,r0%r1,x1,x0-((r0/r1:Nat):Int)*x1,y1,y0-((r0/r1:Nat):Int)*y1) ⟨by show r0%r1<f;omega,hst,hr1,by show r0%r1< _;omega,heq⟩ hml
     clear hR heq hst hS b1 b2 b3 b4 b5 b6 hres hE;generalize x0-((r0/r1:Nat):Int)*x1=u at*;generalize y0-((r0/r1:Nat):Int)*y1=v at*;repeat' first|simp only[go_sem,seval,en,Z,Z2,aX]|refine cP dv ?_|refine cV c1 ?_|refine cV c2 ?_|refine oE ?_|apply xX<;>intro hc
     refine hgo _ ?_;exact lE
theorem qZ {a m:Nat} (ha:a<(2^64)) (hm:m<(2^64)) (h0:0<m) (hg:Nat.gcd a m=1):aF 93 [N a,N m] (.tup [N (iQ a m),E 0]):=by
 have w1:=tu;have w2:=oY;have hc:=fun nm=>Gg nm (aZ a) (aZ m)
 rw[SD ha hm h0]at hc;have hl:=aL a h0;have hd:=kZ ha hm h0;have hg':Nat.gcd (a%m) m=1:=by rw[<-hg,<-o5,lh]
 obtain⟨X,Y,h1,h3⟩:=DV (a:=a%m) (b:=m) oO hm h0;obtain⟨h4,h5⟩:=h1 hg';rw[hg']at h3;have hX:X.natAbs%m=iQ a m:=by
  rw[h5];obtain⟨g1,g2⟩:=(vR h0 hg').inv;exact(iR g1 (by rw[lj]at g2;exact g2)).symm
 have hr:aF 163 [.s (zb X),N m] (N (iQ a m)):=by
  have:=kZ h4 hm h0
  rwa[hX]at this
 clear h1 h4 h5 hX;refine eW call93 func93 ?_;repeat' first|simp only[go_sem,seval,Z,NS,du,qI,kR]|(refine aW (hc _) (by simp) ?_)|refine cP hd ?_|refine cP h3 ?_|refine cP hr ?_|refine oE ?_|apply xX<;>intro hc
end Go.Proofs.Tryz
namespace Go.Proofs.Tryz
open Go Go.Dom Go.Num
variable {a b x:Nat} {e o:Bytes}
def gE (m o:Bytes):Int:=if !(aa m&&aa o)then 3 else if o==[]then(if dH m []then 0 else 13)else if num m<=1\/num o<=1\/(num m-1)%num o≠0 then 13 else 0
def lf (m o x:Bytes):Bool:=if o==[]then cL m [] x else iz m o x
def Cd (m o x:Bytes):Bool:=decide (gE m o=0)&&lf m o x
structure GP (m o:Bytes) (n:Nat):Prop where
 lt:n<num m
 SF:Nat.gcd n (num m)=1
 ord:o=[]\/n^num o%num m=1%num m
theorem qJ {m o:Bytes} (h:gE m o=0):aa m=true/\aa o=true/\1<num m/\(o=[]->dH m []=true)/\(o≠[]->1<num o/\(num m-1)%num o=0):=by
 unfold gE at h
 split at h
 ·cases h
 ·rename_i h1;have h1:aa m=true/\aa o=true:=by simpa using h1
  split at h
  ·rename_i h2
   split at h
   ·rename_i h3;have h4:8<num m:=by simp only[dH,aV,bc]at h3;exact h3.2
    exact⟨h1.1,h1.2,oO,fun _=>h3,fun g=>aJ (by simpa using h2) g⟩
   ·cases h
  ·rename_i h2
   split at h
   ·cases h
   ·rename_i h3;exact⟨h1.1,h1.2,oO,fun g=>aJ g (by simpa using h2),fun _=>oO⟩
theorem yf {x i m:Nat} (hm:1<m) (h:x*i%m=1%m):Nat.gcd x m=1:=by
 have h1:Nat.gcd x m∣x*i%m:=by
  have d1:Nat.gcd x m∣x*i:=Nat.dvd_trans (Dc x m) (Nat.dvd_mul_right x i);exact(Nat.dvd_mod_iff (DG x m)).2 d1
 rw[h,bM hm]at h1;exact Nat.dvd_one.1 h1
theorem eY {m o x:Bytes} (h:gE m o=0):lf m o x=true↔aa x=true/\GP m o (num x):=by
 obtain⟨vm,vo,m1,hr,hp⟩:=qJ h;unfold lf
 by_cases ho:o=[]
 ·subst ho;have hb:=hr rfl;simp only[kR,aA,cL,hb,aV,bc,dC,dY,true_and];constructor
  ·rintro⟨⟨⟨h1,h2⟩,h3⟩,h4⟩;exact⟨h1,h3,h4, .inl rfl⟩
  ·rintro⟨h1,h3,h4,-⟩;refine⟨⟨⟨h1,?_⟩,h3⟩,h4⟩;intro e;subst e;simp[num]at h4;omega
 ·have hb:(o==([]:Bytes))=false:=by simpa using ho
  obtain⟨o1,od⟩:=hp ho;simp only[hb,bQ,ak,iz,vm,vo,aV,bc,dC,dY,true_and,db,and_true];constructor
  ·rintro⟨⟨⟨h1,h2⟩,h3⟩,h4⟩;have:num x^num o=num x*num x^(num o-1):=by rw[<-xj];congr 1;omega
   rw[this]at h4;exact⟨h1,h3,yf m1 h4, .inr (by rw[this];exact h4)⟩
  ·rintro⟨h1,h3,h4,h5⟩;refine⟨⟨⟨h1,?_⟩,h3⟩,h5.resolve_left ho⟩;intro e;subst e;simp[num]at h4;omega
theorem EB (a b:Nat):Nat.gcd (a%b) b=Nat.gcd a b:=by rw[<-o5,lh]
theorem GP.unit {m o:Bytes} {n:Nat} (h:GP m o n):eK (num m) n:=vR (by have:=h.lt;omega) h.SF
theorem GP.mul {m o:Bytes} (ha:GP m o a) (hb:GP m o b):GP m o (a*b%num m):=by
 have h0:0<num m:=by have:=ha.lt;omega
 refine⟨aL _ h0,?_,?_⟩
 ·rw[EB];exact Nat.Coprime.mul_left ha.SF hb.SF
 ·rcases ha.ord with h|h
  ·exact .inl h
  ·rcases hb.ord with g|g
   ·exact .inl g
   ·refine .inr ?_;rw[<-gL,pq,cd,h,g,<-cd,jP]
theorem GP.pow {m o:Bytes} (ha:GP m o a) (e:Nat):GP m o (a^e%num m):=by
 have h0:0<num m:=by have:=ha.lt;omega
 refine⟨aL _ h0,?_,?_⟩
 ·rw[EB];exact Df e ha.SF
 ·rcases ha.ord with h|h
  ·exact .inl h
  ·refine .inr ?_;rw[<-gL,<-gX,bw,gX,gL,h,<-gL,lO]
theorem GP.inv {m o:Bytes} (ha:GP m o a) (m1:1<num m):GP m o (iQ a (num m)):=by
 have h0:0<num m:=oO;obtain⟨g1,g2⟩:=ha.unit.inv;refine⟨g1,yf (i:=a) m1 (by rw[bw];exact g2),?_⟩
 rcases ha.ord with h|h
 ·exact .inl h
 ·refine .inr ?_;have e1:(a*iQ a (num m))^num o%num m=1%num m:=by rw[gL,g2,<-gL,lO]
  rw[pq,cd,h,<-cd,jP]at e1;exact e1
theorem GP.dU {m o:Bytes} (ha:GP m o a) (m1:1<num m) (ng:Bool) (e:Nat):GP m o (Dom.dU (num m) a ng e):=by
 unfold Dom.dU;cases ng
 ·exact ha.pow e
 ·exact(ha.inv m1).pow e
theorem GP.has {m o:Bytes} {n:Nat} (h:GP m o n) (hE:gE m o=0) (lm:m.length<=8):lf m o (aZ n)=true:=by
 have:=cU lm;exact(eY hE).2 ⟨vN (by have:=h.lt;omega),by rw[aP];exact h⟩
theorem nS {m:Bytes} (lm:m.length<=8) (lo:o.length<=8):aF 83 [G m o] (E (gE m o)):=by
 by_cases ho:o=[]
 ·subst ho;have:=rG m;have e:gE m []=Bm m:=by
   unfold gE Bm;have hv0:aa []=true:=rfl
   cases aa m<;>simp[hv0]
  rw[e];exact this
 have hb:(o==([]:Bytes))=false:=by simpa using ho
 have v1:=aD m;have v2:=aD o;unfold gE
 by_cases hv:aa m=true/\aa o=true
 case neg=>
  have:(aa m&&aa o)=false:=by rw[dA];intro g;simp at g;exact hv g
  rw[this];generalize aa m=b1 at*;generalize aa o=b2 at*;refine eW call83 func83 ?_;exact O5 @v1 @v2
 obtain⟨vm,vo⟩:=hv;have nm:=cU lm;have no:=cU lo;have hop:num o≠0:=fun e=>ho ((sK vo).1 e)
 rw[vm]at v1;rw[vo]at v2;rw[vm,vo,hb];have hs:=TH (a:=num m) (b:=1) nm oC;have hcm:=lY o [2];rw[vo,show aa [2]=true from rfl,show num [2]=2 from rfl]at hcm
 simp only[dW,aA]at hcm;have hcl: ∀ _:True,decide (bK (num o) 2<0)=decide (num o<2):=fun _=>by
  rw[cI];simp[ji]
 have e1:N (num m)= .s m:=congrArg PV.s (eU vm);have e2:N (num o)= .s o:=congrArg PV.s (eU vo);rw[e1]at hs;generalize bK (num o) 2=cm at*
 by_cases m0:num m=0
 ·rw[af oO,af oO]at hs;have:(if num m<=1\/num o<=1\/(num m-1)%num o≠0 then(13:Int)else 0)=13:=ah oO
  simp only[dW,cQ,bQ,ak,this];refine eW call83 func83 ?_;simp only[go_sem,seval,du];exact Wm (aN @hb @du) @v1 @v2 @xI @hs
 rw[ah oO,ah oO]at hs
 by_cases m1:num m=1
 ·have:(if num m<=1\/num o<=1\/(num m-1)%num o≠0 then(13:Int)else 0)=13:=ah oO
  simp only[dW,cQ,bQ,ak,this];rw[m1]at hs;refine eW call83 func83 ?_;simp only[go_sem,seval,du];exact Wm (aN @hb (aN @du @Cy)) @v1 @v2 @xI @hs
 have en:=yQ (n:=num m-1) oO;have hd:=jC (a:=num m-1) (b:=num o) oO no oO;rw[e2]at hd;have hz: ∀ _:True,(aZ ((num m-1)%num o)==([]:Bytes))=decide ((num m-1)%num o=0):=fun _=>by
  rw[cI];simp[gR]
 by_cases o1:num o<2
 ·have:(if num m<=1\/num o<=1\/(num m-1)%num o≠0 then(13:Int)else 0)=13:=ah oO
  simp only[dW,cQ,bQ,ak,this];rw[aS o1]at hcl;refine eW call83 func83 ?_;simp only[go_sem,seval,du];exact O4 (aN @hb (aN @du (aN @en (hcl oT)))) @v1 @v2 @xI @Wt @hs @hcm oT
 rw[b9 o1]at hcl
 by_cases hd0:(num m-1)%num o=0
 ·have:(if num m<=1\/num o<=1\/(num m-1)%num o≠0 then(13:Int)else 0)=0:=af oO
  simp only[dW,cQ,bQ,ak,this];rw[hd0]at hd;refine eW call83 func83 ?_;simp only[go_sem,seval,du];exact O4 (aN @hb (aN @du (aN @en (aN (hcl oT) @Cy)))) @v1 @v2 @xI @Wt @hs @hcm @hd
 ·have:(if num m<=1\/num o<=1\/(num m-1)%num o≠0 then(13:Int)else 0)=13:=ah oO
  simp only[dW,cQ,bQ,ak,this];have en2:=yQ hd0;refine eW call83 func83 ?_;simp only[go_sem,seval,du];exact O4 (aN @hb (aN @du (aN @en (aN (hcl oT) @en2)))) @v1 @v2 @xI @Wt @hs @hcm @hd
theorem sE {m:Bytes} (lm:m.length<=8) (o x:Bytes):aF 156 [G m o, .s x] (.b (lf m o x)):=by
 by_cases ho:o=[]
 ·subst ho;exact E7 lm x
 ·have hb:(o==([]:Bytes))=false:=by simpa using ho
  have h:=EX lm o x;unfold lf;rw[hb];simp only[bQ,ak];refine eW call156 func156 ?_;exact ot @hb @h
theorem MY {m:Bytes} (lm:m.length<=8) (lo:o.length<=8) (x:Bytes):aF 84 [G m o, .s x] (.b (Cd m o x)):=by
 have h1:=nS lm lo;have h2:=sE lm o x;unfold Cd;generalize gE m o=z at*;generalize lf m o x=b at*;refine eW call84 func84 ?_;exact O5 @h1 @h2
theorem H7 {m:Bytes} (lm:m.length<=8) (lo:o.length<=8) (hE:gE m o=0) (ha:GP m o a) (hb:GP m o b):aF 376 [G m o,N a,N b] (.tup [N (a*b%num m),E 0]):=by
 obtain⟨vm,vo,m1,-,-⟩:=qJ hE;have hn:=cU lm;have la:=ha.lt;have lb:=hb.lt;have hm:=Nx (a:=a) (b:=b) (m:=num m) oO oO hn oO;have e1:N (num m)= .s m:=congrArg PV.s (eU vm);rw[e1]at hm;have c1:=aD (aZ a);have c2:=aD (aZ b);rw[vN (show a<(2^64) by omega)]at c1
 rw[vN (show b<(2^64) by omega)]at c2
 have c3:=nS lm lo;rw[hE]at c3;have c4:=sE lm o (aZ a);have c5:=sE lm o (aZ b);rw[ha.has hE lm]at c4;rw[hb.has hE lm]at c5;have hch:aF 92 [G m o, .sl [N a,N b], .sl [], .b true] (E 0):=by
  refine eW call92 func92 ?_;exact zu5 @c1 @c2 @c3 @c4 @c5
 refine eW call376 func376 ?_;exact z2 @hch @hm
theorem MZ {m:Bytes} (lm:m.length<=8) (lo:o.length<=8) {ng:Bool} (hE:gE m o=0) (hx:GP m o x) (he:aa e=true) (hz:(ng&&e==[])=false):aF 42 [G m o, .sl [N x], .sl [.agg [.b ng, .s e]]] (.tup [N (dU (num m) x ng (num e)),E 0]):=by
 obtain⟨vm,vo,m1,-,-⟩:=qJ hE;have hn:=cU lm;have lx:=hx.lt;have c1:=aD (aZ x);rw[vN (show x<(2^64) by omega)]at c1
 have c2:=ib ng e;rw[he,hz]at c2;have c3:=nS lm lo;rw[hE]at c3;have c4:=sE lm o (aZ x);rw[hx.has hE lm]at c4;have hch:aF 92 [G m o, .sl [N x], .sl [.agg [.b ng, .s e]], .b true] (E 0):=by
  refine eW call92 func92 ?_;exact zu4 @c1 @c2 @c3 @c4
 have hbt:=wu he;have hbi:=fun i hi=>xz he i hi
 have hinv:=qZ (a:=x) (m:=num m) oO hn oO hx.SF;have hil:=hx.unit.inv.1;clear c1 c2 c3 c4;unfold dU;obtain⟨n,hnn⟩: ∃n,n=num e:=⟨_,rfl⟩;obtain⟨M,hM⟩: ∃M,M=num m:=⟨_,rfl⟩;have eG:G m o= .agg [N M, .s o]:=by rw[hM,show N (num m)= .s m from congrArg PV.s (eU vm)]
 rw[eG]at hch⊢;rw[<-hM]at lx hn m1 hinv hil;rw[<-hnn]at hbt hbi;rw[<-hnn,<-hM];clear hx;have hbl:cH n<1000000:=by
  have h1:n<2^1024:=by
   rw[hnn];refine ba (cu e) ?_;have le:e.length<=128:=by simp[aa]at he;exact he.1
   exact fV (cW oC le) (by decide+kernel)
  unfold cH;split
  ·decide
  ·rename_i h;have:=(wR h).2 h1;omega
 have hmx: ∀ _:True,(if(cH n:Int)>0 then(cH n:Int)else 0)=(cH n:Int):=fun _=>by split<;>omega
 have hM1:1%M=1:=bM oO;have hw1: ∀ _:True,IntKind.i64.wrap ((cH n:Int)-1)=(cH n:Int)-1:=fun _=>IntWalk.i64_in _ oO
 cases ng
 ·simp only[bQ,ak];obtain⟨xm,hxm⟩: ∃xm,xm=x:=⟨_,rfl⟩;rw[<-hxm]at hch lx⊢;refine eW call42 func42 ?_;refine rT (aN @Kn (aN @AK (aN @qd (aN @KZ (aN (hmx oT) (aN (hw1 oT) @du)))))) @hch @hbt @xI oT ?_;refine aj ?_;refine rT (aN @Kn (aN @AK (aN @qd (aN @KZ (aN (hmx oT) (aN (hw1 oT) @du)))))) @hch @hbt @xI oT ?_;refine aj ?_;refine rT (aN @Kn (aN @AK (aN @qd (aN @KZ (aN (hmx oT) (aN (hw1 oT) @du)))))) @hch @hbt @xI oT ?_;refine aq (α:=Nat) (fun k=>k) (fun k=>⟨[(2, .v (.sl [.agg [.b false, .s e]])),(9, .rs 1017 0 0 1 1),(15, .p 1052 0 0),(16, .fn (.func 95) [] [.p 1052 0 0, .p 1000 0 0]),(17, .v (.i .i64 ((k:Int)-1)))],[(1052,⟨0,[.v (N (xm^(n/2^k)%M))],false,some 22⟩),(1017,⟨0,[.v (N xm)],false,none⟩),(1000,⟨0,[.v (N M), .v (.s o)],false,none⟩)],_⟩) (fun k=>k<=cH n) (cH n) (fun _=>aB _) (aB _) ?_ ?_
  ·(refine AS.Le.of (by first|decide|omega) ?_ ?_<;>simp[dG,dF,aO,hget,AV.bd,AV.bd.bdL,u8,ar,au,az])
   rw[Sz,Nat.pow_zero,hM1]
  ·intro k hk R hR
   cases k with
   |zero=>
    refine xy ?_;rw[jO]
   |succ k=>
    obtain⟨z,hz⟩: ∃z,z=xm^(n/2^(k+1))%M:=⟨_,rfl⟩;have hzm:z<M:=by rw[hz];exact aL _ oO
    have e1: ∀ _:True,((k+1:Nat):Int)-1=(k:Int):=fun _=>oO
    have hge: ∀ _:True,decide ((k:Int)>=0)=true:=fun _=>by simp
    have hbit:=hbi k oO;have hdec:n.testBit k=decide (n/2^k%2=1):=kN;rw[hdec]at hbit;have hwk: ∀ _:True,IntKind.i64.wrap ((k:Int)-1)=(k:Int)-1:=fun _=>IntWalk.i64_in _ oO
    have hdd:n/2^(k+1)=n/2^k/2:=by rw[Nat.pow_succ,fj]
    have hzz:z*z%M<M:=aL _ oO;rw[<-hz];have hx1:=fun nm=>lX 1052 1000 nm oC o (some 22) none (a:=z) (b:=z) (m:=M) oO oO oO oO
    have hx2:=fun nm=>lX 1052 1000 nm oC o (some 22) none (a:=z*z%M) (b:=xm) (m:=M) oO oO oO oO
    repeat' first|simp only[go_sem,seval,e1 oT,hge oT,iq,iW,qd]|(refine aW (hx1 _) (by simp[hget]) ?_)|refine oE ?_|apply xX<;>intro hc
    refine aj ?_;repeat' first|simp only[go_sem,seval,hge oT,hwk oT,iq,iW,qd]|refine cP hbit ?_|(refine aW (hx2 _) (by simp[hget]) ?_)|(refine aj ?_)|refine oE ?_|apply xX<;>intro hc
    ·have hb2:n/2^k=2*(n/2^(k+1))+1:=oO;refine hR k oO oO _ ?_;have ez:z*z%M*xm%M=xm^(n/2^k)%M:=by
      have e3:z*z%M=xm^(n/2^(k+1))*xm^(n/2^(k+1))%M:=by rw[hz,<-cd]
      rw[hb2,Nat.pow_succ,qH,cF,e3,lj]
     rw[<-ez];exact lE
    ·have hb2:n/2^k=2*(n/2^(k+1)):=oO;refine hR k oO oO _ ?_;have ez:z*z%M=xm^(n/2^k)%M:=by
      rw[hb2,qH,cF,hz,<-cd]
     rw[<-ez];exact lE
 ·simp only[aA];obtain⟨xm,hxm⟩: ∃xm,xm=iQ x M:=⟨_,rfl⟩;rw[<-hxm]at hinv hil⊢;refine eW call42 func42 ?_;refine rT (aN @Kn (aN @AK (aN @qd (aN @KZ (aN (hmx oT) (aN (hw1 oT) @du)))))) @hch @hbt @xI @hinv ?_;refine aj ?_;refine rT (aN @Kn (aN @AK (aN @qd (aN @KZ (aN (hmx oT) (aN (hw1 oT) @du)))))) @hch @hbt @xI @hinv ?_;refine aj ?_;refine rT (aN @Kn (aN @AK (aN @qd (aN @KZ (aN (hmx oT) (aN (hw1 oT) @du)))))) @hch @hbt @xI @hinv ?_;refine aq (α:=Nat) (fun k=>k) (fun k=>⟨[(2, .v (.sl [.agg [.b true, .s e]])),(9, .rs 1017 0 0 1 1),(15, .p 1068 0 0),(16, .fn (.func 95) [] [.p 1068 0 0, .p 1000 0 0]),(17, .v (.i .i64 ((k:Int)-1)))],[(1068,⟨0,[.v (N (xm^(n/2^k)%M))],false,some 22⟩),(1017,⟨0,[.v (N xm)],false,none⟩),(1000,⟨0,[.v (N M), .v (.s o)],false,none⟩)],_⟩) (fun k=>k<=cH n) (cH n) (fun _=>aB _) (aB _) ?_ ?_
  ·(refine AS.Le.of (by first|decide|omega) ?_ ?_<;>simp[dG,dF,aO,hget,AV.bd,AV.bd.bdL,u8,ar,au,az])
   rw[Sz,Nat.pow_zero,hM1]
  ·intro k hk R hR
   cases k with
   |zero=>
    refine xy ?_;rw[jO]
   |succ k=>
    obtain⟨z,hz⟩: ∃z,z=xm^(n/2^(k+1))%M:=⟨_,rfl⟩;have hzm:z<M:=by rw[hz];exact aL _ oO
    have e1: ∀ _:True,((k+1:Nat):Int)-1=(k:Int):=fun _=>oO
    have hge: ∀ _:True,decide ((k:Int)>=0)=true:=fun _=>by simp
    have hbit:=hbi k oO;have hdec:n.testBit k=decide (n/2^k%2=1):=kN;rw[hdec]at hbit;have hwk: ∀ _:True,IntKind.i64.wrap ((k:Int)-1)=(k:Int)-1:=fun _=>IntWalk.i64_in _ oO
    have hdd:n/2^(k+1)=n/2^k/2:=by rw[Nat.pow_succ,fj]
    have hzz:z*z%M<M:=aL _ oO;rw[<-hz];have hx1:=fun nm=>lX 1068 1000 nm oC o (some 22) none (a:=z) (b:=z) (m:=M) oO oO oO oO
    have hx2:=fun nm=>lX 1068 1000 nm oC o (some 22) none (a:=z*z%M) (b:=xm) (m:=M) oO oO oO oO
    repeat' first|simp only[go_sem,seval,e1 oT,hge oT,iq,iW,qd]|(refine aW (hx1 _) (by simp[hget]) ?_)|refine oE ?_|apply xX<;>intro hc
    refine aj ?_;repeat' first|simp only[go_sem,seval,hge oT,hwk oT,iq,iW,qd]|refine cP hbit ?_|(refine aW (hx2 _) (by simp[hget]) ?_)|(refine aj ?_)|refine oE ?_|apply xX<;>intro hc
    ·have hb2:n/2^k=2*(n/2^(k+1))+1:=oO;refine hR k oO oO _ ?_;have ez:z*z%M*xm%M=xm^(n/2^k)%M:=by
      have e3:z*z%M=xm^(n/2^(k+1))*xm^(n/2^(k+1))%M:=by rw[hz,<-cd]
      rw[hb2,Nat.pow_succ,qH,cF,e3,lj]
     rw[<-ez];exact lE
    ·have hb2:n/2^k=2*(n/2^(k+1)):=oO;refine hR k oO oO _ ?_;have ez:z*z%M=xm^(n/2^k)%M:=by
      rw[hb2,qH,cF,hz,<-cd]
     rw[<-ez];exact lE
theorem qk {m:Bytes} (lm:m.length<=8) (lo:o.length<=8) {ng:Bool} (hE:gE m o=0) (hx:GP m o x) (he:aa e=true) (hz:(ng&&e==[])=false):aF 375 [G m o,N x, .agg [.b ng, .s e]] (.tup [N (dU (num m) x ng (num e)),E 0]):=by
 have hp:=MZ lm lo hE hx he hz;refine eW call375 func375 ?_;exact z1 @hp
