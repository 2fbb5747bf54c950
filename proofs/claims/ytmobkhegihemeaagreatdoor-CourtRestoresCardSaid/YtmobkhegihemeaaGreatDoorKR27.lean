/-
  Part of the proof, part KR27. Own work.
-/
import Derived.Test.YtmobkhegihemeaaGreatDoorKR26
set_option linter.all false
namespace Go.Proofs.YtmobkhegihemeaaGreatDoor
open Go Go.Dom Go.Num
set_option maxRecDepth 100000
set_option maxHeartbeats 8000000
theorem I5 {a b:Nat} (h:a*b<dt) (ha:a<dt) (hb:b<dt):aB Tryz.prog 326 [N a,N b] (.tup [N (a*b),E 0]):=by
 have:=Lb (aK a) (aK b);simp only[yY,vB ha,vB hb,Bool.and_self,if_true,aG,h]at this;exact this
theorem HA {a b:Nat} (h:a+b<dt):aB Tryz.prog 95 [N a,N b] (.tup [N (a+b),E 0]):=by
 have:=KR (aK a) (aK b);simp only[DG,vB (show a<dt by omega),vB (show b<dt by omega),Bool.and_self,if_true,aG,h]at this
 exact this
theorem oK {a b:Nat} (h:b≤a) (ha:a<dt):aB Tryz.prog 94 [N a,N b] (.tup [N (a-b),E 0]):=by
 have:=Dz (aK a) (aK b);simp only[zF,vB ha,vB (show b<dt by omega),Bool.and_self,if_true,aG,h]at this
 exact this
theorem lV {a b:Nat} (ha:a<dt) (hb:b<dt):aB Tryz.prog 30 [N a,N b] (E (aT a b)):=by
 have:=gO (aK a) (aK b);simp only[vB ha,vB hb,Bool.and_self,if_true,aG]at this;exact this
theorem u6 {x:Int} (h:x.natAbs<dt):aB Tryz.prog 171 [Z x] (.b true):=by
 have:=dJ (zs x) (zb x)
 rwa[P3 h]at this
theorem D7 {x y:Int} (hx:x.natAbs<dt) (hy:y.natAbs<dt):aB Tryz.prog 336 [Z x,Z y] (.b true):=by
 have v1:=u6 hx;have v2:=u6 hy;refine eW Tryz.call336 Tryz.func336 ?_;repeat' first|simp only[go_sem,seval,Z]|refine cP v1 ?_|refine cP v2 ?_|refine sB ?_|(first|apply pX|apply bX)<;>intro hc|refine⟨oD,?_⟩|exact oD|fail
theorem qm (b:Bool) (n:Nat) {z:Int} (h:(if b then-(n:Int)else n)=z):aB Tryz.prog 99 [.b b,N n] (Z z):=by
 have:=oX b (aK n);rw[SN,h]at this;exact this
theorem r9 {n:Nat} (h:n<dt):aB Tryz.prog 47 [N n] (Z n):=j8 (vB h)
theorem Hr:aB Tryz.prog 70 [E 1] (Z 1):=by
 have h1:=fI 1 (by decide)
 have hm:=qm false 1 rfl;refine eW Tryz.call70 Tryz.func70 ?_;repeat' first|simp only[go_sem,seval,Z]|refine cP h1 ?_|refine cP hm ?_|refine sB ?_|(first|apply pX|apply bX)<;>intro hc|refine⟨oD,?_⟩|exact oD|fail
theorem Ql:aB Tryz.prog 70 [E 0] (Z 0):=by
 have h1:=fI 0 (by decide)
 have hm:=qm false 0 rfl;refine eW Tryz.call70 Tryz.func70 ?_;repeat' first|simp only[go_sem,seval,Z]|refine cP h1 ?_|refine cP hm ?_|refine sB ?_|(first|apply pX|apply bX)<;>intro hc|refine⟨oD,?_⟩|exact oD|fail
theorem Qk {y:Int} (h:y.natAbs<dt):aB Tryz.prog 352 [Z y] (Z (-y)):=by
 have hv:=u6 h;have hm:=qm (!zs y) y.natAbs (Rt y);refine eW Tryz.call352 Tryz.func352 ?_;repeat' first|simp only[go_sem,seval,Z]|refine cP hv ?_|refine cP hm ?_|refine sB ?_|(first|apply pX|apply bX)<;>intro hc|refine⟨oD,?_⟩|exact oD|fail
theorem EX {x y:Int} (hx:x.natAbs<dt) (hy:y.natAbs<dt) (h:x.natAbs*y.natAbs<dt):aB Tryz.prog 280 [Z x,Z y] (.tup [Z (x*y),E 0]):=by
 have hb:=D7 hx hy;have hm:=I5 h hx hy;have hk:=qm (zs x !=zs y) (x.natAbs*y.natAbs) (Rs x y);refine eW Tryz.call280 Tryz.func280 ?_;repeat' first|simp only[go_sem,seval,Z]|refine cP hb ?_|refine cP hm ?_|refine cP hk ?_|refine sB ?_|(first|apply pX|apply bX)<;>intro hc|refine⟨oD,?_⟩|exact oD|fail
theorem EY {x y:Int} (hx:x.natAbs<dA) (hy:y.natAbs<dA):aB Tryz.prog 280 [Z x,Z y] (.tup [Z (x*y),E 0]):=
 have hw:=Dj
 EX (by omega) (by omega) (Nat.lt_of_lt_of_le (Nat.mul_lt_mul'' hx hy) J4)
theorem wN {x y:Int} (hlim:x.natAbs+y.natAbs<dt):aB Tryz.prog 282 [Z x,Z y] (.tup [Z (x+y),E 0]):=by
 have hb0:=D7 (x:=x) (y:=y) (by omega) (by omega)
 by_cases hs:zs x=zs y
 ·have ha:=HA hlim;have hk:=qm (zs x) (x.natAbs+y.natAbs) (P1 hs);have hb: ∀ _:True,(zs x==zs y)=true:=fun _=>by rw[hs];simp
  clear hs hlim;refine eW Tryz.call282 Tryz.func282 ?_;repeat' first|simp only[go_sem,seval,Z,hb trivial]|refine cP hb0 ?_|refine cP ha ?_|refine cP hk ?_|refine sB ?_|(first|apply pX|apply bX)<;>intro hc|refine⟨oD,?_⟩|exact oD|fail
 have hb: ∀ _:True,(zs x==zs y)=false:=fun _=>by simpa using hs
 have hcm:=lV (a:=x.natAbs) (b:=y.natAbs) (by omega) (by omega)
 by_cases hl:y.natAbs≤x.natAbs
 ·have hd:=oK hl (by omega)
  have hk:=qm (zs x) (x.natAbs-y.natAbs) (KQ hs hl);have hg: ∀ _:True,decide (aT x.natAbs y.natAbs<0)=false:=fun _=>decide_eq_false (fun h=>by rw[fE]at h;omega)
  generalize aT x.natAbs y.natAbs=cm at*;clear hs hlim;refine eW Tryz.call282 Tryz.func282 ?_;repeat' first|simp only[go_sem,seval,Z,hb trivial,hg trivial]|refine cP hb0 ?_|refine cP hcm ?_|refine cP hd ?_|refine cP hk ?_|refine sB ?_|(first|apply pX|apply bX)<;>intro hc|refine⟨oD,?_⟩|exact oD|fail
 ·have hd:=oK (a:=y.natAbs) (b:=x.natAbs) (by omega) (by omega)
  have hk:=qm (zs y) (y.natAbs-x.natAbs) (P2 hs (by omega))
  have hg: ∀ _:True,decide (aT x.natAbs y.natAbs<0)=true:=fun _=>decide_eq_true (by rw[fE];omega)
  generalize aT x.natAbs y.natAbs=cm at*;clear hs hlim;refine eW Tryz.call282 Tryz.func282 ?_;repeat' first|simp only[go_sem,seval,Z,hb trivial,hg trivial]|refine cP hb0 ?_|refine cP hcm ?_|refine cP hd ?_|refine cP hk ?_|refine sB ?_|(first|apply pX|apply bX)<;>intro hc|refine⟨oD,?_⟩|exact oD|fail
theorem OK {x y:Int} (hx:x.natAbs<dA) (hy:y.natAbs<dA):aB Tryz.prog 282 [Z x,Z y] (.tup [Z (x+y),E 0]):=
 wN (Nat.lt_of_lt_of_le (show _<dA*dA by unfold dA at*;omega) J4)
theorem Kv {x y:Int} (hlim:x.natAbs+y.natAbs<dt):aB Tryz.prog 298 [Z x,Z y] (.tup [Z (x-y),E 0]):=by
 have hb:=D7 (x:=x) (y:=y) (by omega) (by omega)
 have hn:=Qk (y:=y) (by omega)
 have ha:=wN (x:=x) (y:= -y) (by omega)
 rw[←Int.sub_eq_add_neg]at ha;refine eW Tryz.call298 Tryz.func298 ?_;repeat' first|simp only[go_sem,seval,Z]|refine cP hb ?_|refine cP hn ?_|refine cP ha ?_|refine sB ?_|(first|apply pX|apply bX)<;>intro hc|refine⟨oD,?_⟩|exact oD|fail
theorem Kw {x y:Int} (hx:x.natAbs<dA) (hy:y.natAbs<dA):aB Tryz.prog 298 [Z x,Z y] (.tup [Z (x-y),E 0]):=
 Kv (Nat.lt_of_lt_of_le (show _<dA*dA by unfold dA at*;omega) J4)
theorem mO:18446744073709551616≤dA:=by decide
theorem jE:18446744073709551616≤dt:=by unfold dt;decide+kernel
abbrev Z2 (x y:Int):PV:= .agg [.b (zs x), .s (zb x), .b (zs y), .s (zb y)]
theorem AA {q:Nat} {x0 x1:Int} (hq:q<18446744073709551616) (h0:x0.natAbs<18446744073709551616+1) (h1:x1.natAbs<18446744073709551616+1) (hp:(((q:Nat):Int)*x1).natAbs<dA):aB Tryz.prog 297 [Z2 x0 x1, .pt (.agg [N q]) 0] (Z2 x1 (x0-(q:Nat)*x1)):=by
 have w1:=mO;have w2:=jE;have hf:=r9 (n:=q) (by omega)
 have hm:=EY (x:=(q:Int)) (y:=x1) (by rw[Int.natAbs_natCast];omega) (by unfold dA;omega)
 have hs:=Kw (x:=x0) (y:=(q:Int)*x1) (by unfold dA;omega) hp
 generalize (q:Int)*x1=v at*;generalize x0-v=u at*;refine eW Tryz.call297 Tryz.func297 ?_;repeat' first|simp only[go_sem,seval,Z,vz,vu]|refine cP hf ?_|refine cP hm ?_|refine cP hs ?_|refine sB ?_|(first|apply pX|apply bX)<;>intro hc|refine⟨oD,?_⟩|exact oD|fail
theorem Bd {r0 r1 B:Nat} {x1:Int} (h0:0<r1) (h:x1.natAbs*r0≤B):((((r0/r1:Nat):Int))*x1).natAbs≤B:=by
 rw[Int.natAbs_mul,Int.natAbs_natCast];have h1:r0/r1≤r0:=Nat.div_le_self _ _;have:=Nat.mul_le_mul_left x1.natAbs h1;rw[Nat.mul_comm]at this;omega
theorem vD {a b:Nat} (ha:a<18446744073709551616) (hb:b<18446744073709551616) (h0:0<b): ∃X Y:Int,(Nat.gcd a b=1→X.natAbs<18446744073709551616∧X.natAbs%b=cL a b)∧aB Tryz.prog 208 [N a,N b] (.tup [N (Nat.gcd a b),Z X,Z Y,E 0]):=by
 have w1:=mO;have w2:=jE;obtain⟨x',y',hE⟩:=wA (a:=a) (b:=b) (f:=b+1) (by omega) (lD.start h0)
 obtain⟨res,hres⟩: ∃res,res=wz (b+1) a b 1 0 0 1:=⟨_,rfl⟩;rw[←hres]at hE;obtain⟨g,X0,Y0⟩:=res;simp only at hE;have hg:=hE.fin;have hgp:0<g:=by rw[hg];exact Nat.gcd_pos_of_pos_right _ h0
 have bx:=hE.bx0;have by':=hE.by0
 have hm1:b/g≤b:=Nat.div_le_self _ _;have hk1:a/g≤a:=Nat.div_le_self _ _;have v1:=aF (aK a);have v2:=aF (aK b);rw[vB (show a<dt by omega)]at v1
 rw[vB (show b<dt by omega)]at v2
 have e0:(aK b==([]:Bytes))=false:=wX (by omega)
 have d1:=lC (a:=b) (b:=g) hb (by have:g≤b:=(by rw[hg];exact Nat.gcd_le_right _ h0);omega) hgp
 have d2:=lC (a:=a) (b:=g) ha (by have:g≤b:=(by rw[hg];exact Nat.gcd_le_right _ h0);omega) hgp
 have f1:=r9 (n:=b/g) (by omega)
 have f2:=r9 (n:=a/g) (by omega)
 have ad:=OK (x:=X0) (y:=((b/g:Nat):Int)) (by unfold dA;omega) (by rw[Int.natAbs_natCast];unfold dA;omega)
 have sb:=Kw (x:=Y0) (y:=((a/g:Nat):Int)) (by unfold dA;omega) (by rw[Int.natAbs_natCast];unfold dA;omega)
 have o1:=Hr;have o0:=Ql;refine⟨if X0<0 then X0+((b/g:Nat):Int)else X0,if X0<0 then Y0-((a/g:Nat):Int)else Y0,?_,?_⟩
 ·intro h1;have g1:g=1:=by rw[hg];exact h1
  subst g1;obtain⟨k1,k3,k2⟩:=hE.inv h0 _ rfl;rw[Nat.div_one];exact⟨by omega,k2⟩
 ·rw[←hg];refine eW Tryz.call208 Tryz.func208 ?_;simp only[go_sem,seval,Z];repeat' first|simp only[go_sem,seval,e0,Z]|refine cP v1 ?_|refine cP v2 ?_|refine cP o1 ?_|refine cP o0 ?_|refine sB ?_|(first|apply pX|apply bX)<;>intro hc|refine⟨oD,?_⟩|exact oD|fail
  refine aj (α:=Nat×Nat×Nat×Int×Int×Int×Int) (fun s=>s.2.2.1) (fun s=>⟨[(0, .v (N a)),(1, .v (N b)),(5, .p 1001 0 0),(6, .p 1002 0 0),(8, .p 1017 0 0),(9, .p 1025 0 0),(10, .p 1026 0 0)],[(1001,⟨0,[.v (.b false), .v (.s [])],false,some 49⟩),(1002,⟨0,[.v (.b false), .v (.s [])],false,some 49⟩),(1017,⟨0,[.v (N s.2.1), .v (N s.2.2.1)],false,some 343⟩),(1025,⟨0,[.v (.b (zs s.2.2.2.1)), .v (.s (zb s.2.2.2.1)), .v (.b (zs s.2.2.2.2.1)), .v (.s (zb s.2.2.2.2.1))],false,some 344⟩),(1026,⟨0,[.v (.b (zs s.2.2.2.2.2.1)), .v (.s (zb s.2.2.2.2.2.1)), .v (.b (zs s.2.2.2.2.2.2)), .v (.s (zb s.2.2.2.2.2.2))],false,some 344⟩)],_⟩) (fun s=>s.2.2.1<s.1∧lD a b s.2.1 s.2.2.1 s.2.2.2.1 s.2.2.2.2.1 s.2.2.2.2.2.1 s.2.2.2.2.2.2∧s.2.1<18446744073709551616∧s.2.2.1<18446744073709551616∧wz s.1 s.2.1 s.2.2.1 s.2.2.2.1 s.2.2.2.2.1 s.2.2.2.2.2.1 s.2.2.2.2.2.2=(g,X0,Y0)) (b+1,a,b,1,0,0,1) (fun _=>Nat.le_refl _) ⟨by show b<b+1;omega,lD.start h0,ha,hb,hres.symm⟩ ?_ ?_
  ·exact lE
  ·rintro⟨f,r0,r1,x0,x1,y0,y1⟩ ⟨hf,hS,hr0,hr1,heq⟩ R hR;simp only at hf hS hr0 hr1 heq
   cases f with
   |zero=>omega
   |succ f=>
    unfold wz at heq
    by_cases hz:r1=0
    ·subst hz;rw[if_pos rfl]at heq;simp only[Prod.mk.injEq]at heq;obtain⟨rfl,rfl,rfl⟩:=heq
     by_cases hx:x0<0
     ·have hzs:zs x0=true:=by simp[zs,hx]
      simp only[Z,hzs,vz,vu]at ad f1 f2;simp only[Z,vz,vu]at sb;rw[if_pos hx,if_pos hx];clear hR hres hE hS;repeat' first|simp only[go_sem,seval,FE,Z,hzs,vz,vu]|refine cP d1 ?_|refine cP d2 ?_|refine cP f1 ?_|refine cP f2 ?_|refine cP ad ?_|refine cP sb ?_|refine sB ?_|(first|apply pX|apply bX)<;>intro hc|refine⟨oD,?_⟩|exact oD|fail
     ·have hzs:zs x0=false:=by simp[zs,hx]
      rw[if_neg hx,if_neg hx];clear hR hres hE hS;repeat' first|simp only[go_sem,seval,FE,Z,hzs]|refine sB ?_|(first|apply pX|apply bX)<;>intro hc|refine⟨oD,?_⟩|exact oD|fail
    ·rw[if_neg hz]at heq;have hpos:0<r1:=by omega
     have hst:=hS.step hpos;have hml:=Nat.mod_lt r0 hpos;have hq:r0/r1≤r0:=Nat.div_le_self _ _;have dv:=lC hr0 hr1 hpos;have b1:=hS.bx0;have b2:=hS.bx1;have b3:=hS.by0;have b4:=hS.by1;have b5:=hS.hx;have b6:=hS.hy;have c1:=AA (q:=r0/r1) (x0:=x0) (x1:=x1) (by omega) (by omega) (by omega) (by have:=Bd (r1:=r1) hpos (show x1.natAbs*r0≤b by omega);unfold dA;omega)
     have c2:=AA (q:=r0/r1) (x0:=y0) (x1:=y1) (by omega) (by omega) (by omega) (by have:=Bd (r1:=r1) hpos (show y1.natAbs*r0≤a by omega);unfold dA;omega)
     have en:=wX hz;have hgo:=hR (f,r1,r0%r1,x1,x0-((r0/r1:Nat):Int)*x1,y1,y0-((r0/r1:Nat):Int)*y1) ⟨by show r0%r1<f;omega,hst,hr1,by show r0%r1< _;omega,heq⟩ hml
     clear hR heq hst hS b1 b2 b3 b4 b5 b6 hres hE;generalize x0-((r0/r1:Nat):Int)*x1=u at*;generalize y0-((r0/r1:Nat):Int)*y1=v at*;repeat' first|simp only[go_sem,seval,en,Z,Z2,aH]|refine cP dv ?_|refine cV c1 ?_|refine cV c2 ?_|refine sB ?_|(first|apply pX|apply bX)<;>intro hc|refine⟨oD,?_⟩|exact oD|fail
     refine hgo _ ?_;exact lE
theorem kO {a m:Nat} (ha:a<18446744073709551616) (hm:m<18446744073709551616) (h0:0<m) (hg:Nat.gcd a m=1):aB Tryz.prog 125 [N a,N m] (.tup [N (cL a m),E 0]):=by
 have w1:=mO;have w2:=jE;have hc:=fun nm=>LU nm (aK a) (aK m)
 rw[OC ha hm h0]at hc;have hl:=Nat.mod_lt a h0;have hd:=fS ha hm h0;have hg':Nat.gcd (a%m) m=1:=by rw[←hg,←Nat.gcd_rec,Nat.gcd_comm]
 obtain⟨X,Y,h1,h3⟩:=vD (a:=a%m) (b:=m) (by omega) hm h0
 obtain⟨h4,h5⟩:=h1 hg';rw[hg']at h3;have hX:X.natAbs%m=cL a m:=by
  rw[h5];obtain⟨g1,g2⟩:=(fU h0 hg').inv;exact(eY g1 (by rw[Nat.mod_mul_mod]at g2;exact g2)).symm
 have hr:aB Tryz.prog 162 [.s (zb X),N m] (N (cL a m)):=by
  have:=fS h4 hm h0
  rwa[hX]at this
 clear h1 h4 h5 hX;refine eW Tryz.call125 Tryz.func125 ?_;repeat' first|simp only[go_sem,seval,Z,O3,cA,bne_self_eq_false,beq_self_eq_true]|(refine aP (hc _) (by simp) ?_)|refine cP hd ?_|refine cP h3 ?_|refine cP hr ?_|refine sB ?_|(first|apply pX|apply bX)<;>intro hc|refine⟨oD,?_⟩|exact oD|fail
end Go.Proofs.YtmobkhegihemeaaGreatDoor
namespace Go.Proofs.YtmobkhegihemeaaGreatDoor
open Go Go.Dom Go.Num
set_option maxRecDepth 100000
set_option maxHeartbeats 16000000
def gE (m o:Bytes):Int:=if !(aa m&&aa o)then 3 else if o==[]then(if gi m []then 0 else 13)else if num m≤1∨num o≤1∨(num m-1)%num o≠0 then 13 else 0
def fW (m o x:Bytes):Bool:=if o==[]then rT m [] x else oo m o x
def fX (m o x:Bytes):Bool:=decide (gE m o=0)&&fW m o x
structure GP (m o:Bytes) (n:Nat):Prop where
 lt:n<num m
 LZ:Nat.gcd n (num m)=1
 ord:o=[]∨n^num o%num m=1%num m
theorem fb {m o:Bytes} (h:gE m o=0):aa m=true∧aa o=true∧1<num m∧(o=[]→gi m []=true)∧(o≠[]→1<num o∧(num m-1)%num o=0):=by
 unfold gE at h
 split at h
 ·cases h
 ·rename_i h1;have h1:aa m=true∧aa o=true:=by simpa using h1
  split at h
  ·rename_i h2
   split at h
   ·rename_i h3;have h4:8<num m:=by simp only[gi,Bool.and_eq_true,decide_eq_true_eq]at h3;exact h3.2
    exact⟨h1.1,h1.2,by omega,fun _=>h3,fun g=>absurd (by simpa using h2) g⟩
   ·cases h
  ·rename_i h2
   split at h
   ·cases h
   ·rename_i h3;exact⟨h1.1,h1.2,by omega,fun g=>absurd g (by simpa using h2),fun _=>by omega⟩
theorem pW {x i m:Nat} (hm:1<m) (h:x*i%m=1%m):Nat.gcd x m=1:=by
 have h1:Nat.gcd x m∣x*i%m:=by
  have d1:Nat.gcd x m∣x*i:=Nat.dvd_trans (Nat.gcd_dvd_left x m) (Nat.dvd_mul_right x i);exact(Nat.dvd_mod_iff (Nat.gcd_dvd_right x m)).2 d1
 rw[h,Nat.mod_eq_of_lt hm]at h1;exact Nat.dvd_one.1 h1
theorem a7 {m o x:Bytes} (h:gE m o=0):fW m o x=true↔aa x=true∧GP m o (num x):=by
 obtain⟨vm,vo,m1,hr,hp⟩:=fb h;unfold fW
 by_cases ho:o=[]
 ·subst ho;have hb:=hr rfl;simp only[beq_self_eq_true,if_true,rT,hb,Bool.and_eq_true,decide_eq_true_eq,Bool.not_eq_true',beq_eq_false_iff_ne,true_and];constructor
  ·rintro⟨⟨⟨h1,h2⟩,h3⟩,h4⟩;exact⟨h1,h3,h4, .inl rfl⟩
  ·rintro⟨h1,h3,h4,-⟩;refine⟨⟨⟨h1,?_⟩,h3⟩,h4⟩;intro e;subst e;simp[num]at h4;omega
 ·have hb:(o==([]:Bytes))=false:=by simpa using ho
  obtain⟨o1,od⟩:=hp ho;simp only[hb,Bool.false_eq_true,if_false,oo,vm,vo,Bool.and_eq_true,decide_eq_true_eq,Bool.not_eq_true',beq_eq_false_iff_ne,true_and,Bool.not_false,and_true];constructor
  ·rintro⟨⟨⟨h1,h2⟩,h3⟩,h4⟩;have:num x^num o=num x*num x^(num o-1):=by rw[←Nat.pow_succ'];congr 1;omega
   rw[this]at h4;exact⟨h1,h3,pW m1 h4, .inr (by rw[this];exact h4)⟩
  ·rintro⟨h1,h3,h4,h5⟩;refine⟨⟨⟨h1,?_⟩,h3⟩,h5.resolve_left ho⟩;intro e;subst e;simp[num]at h4;omega
theorem wI (a b:Nat):Nat.gcd (a%b) b=Nat.gcd a b:=by rw[←Nat.gcd_rec,Nat.gcd_comm]
theorem GP.unit {m o:Bytes} {n:Nat} (h:GP m o n):bE (num m) n:=fU (by have:=h.lt;omega) h.LZ
theorem GP.mul {m o:Bytes} {a b:Nat} (ha:GP m o a) (hb:GP m o b):GP m o (a*b%num m):=by
 have h0:0<num m:=by have:=ha.lt;omega
 refine⟨Nat.mod_lt _ h0,?_,?_⟩
 ·rw[wI];exact Nat.Coprime.mul_left ha.LZ hb.LZ
 ·rcases ha.ord with h|h
  ·exact .inl h
  ·rcases hb.ord with g|g
   ·exact .inl g
   ·refine .inr ?_;rw[←Nat.pow_mod,Nat.mul_pow,Nat.mul_mod,h,g,←Nat.mul_mod,Nat.one_mul]
theorem GP.pow {m o:Bytes} {a:Nat} (ha:GP m o a) (e:Nat):GP m o (a^e%num m):=by
 have h0:0<num m:=by have:=ha.lt;omega
 refine⟨Nat.mod_lt _ h0,?_,?_⟩
 ·rw[wI];exact Nat.Coprime.pow_left e ha.LZ
 ·rcases ha.ord with h|h
  ·exact .inl h
  ·refine .inr ?_;rw[←Nat.pow_mod,←Nat.pow_mul,Nat.mul_comm,Nat.pow_mul,Nat.pow_mod,h,←Nat.pow_mod,Nat.one_pow]
theorem GP.inv {m o:Bytes} {a:Nat} (ha:GP m o a) (m1:1<num m):GP m o (cL a (num m)):=by
 have h0:0<num m:=by omega
 obtain⟨g1,g2⟩:=ha.unit.inv;refine⟨g1,pW (i:=a) m1 (by rw[Nat.mul_comm];exact g2),?_⟩
 rcases ha.ord with h|h
 ·exact .inl h
 ·refine .inr ?_;have e1:(a*cL a (num m))^num o%num m=1%num m:=by rw[Nat.pow_mod,g2,←Nat.pow_mod,Nat.one_pow]
  rw[Nat.mul_pow,Nat.mul_mod,h,←Nat.mul_mod,Nat.one_mul]at e1;exact e1
theorem GP.bJ {m o:Bytes} {a:Nat} (ha:GP m o a) (m1:1<num m) (ng:Bool) (e:Nat):GP m o (Dom.bJ (num m) a ng e):=by
 unfold Dom.bJ;cases ng
 ·exact ha.pow e
 ·exact(ha.inv m1).pow e
theorem GP.has {m o:Bytes} {n:Nat} (h:GP m o n) (hE:gE m o=0) (lm:m.length≤8):fW m o (aK n)=true:=by
 have:=cE lm;exact(a7 hE).2 ⟨vN (by have:=h.lt;omega),by rw[aG];exact h⟩
theorem fp {m:Bytes} (lm:m.length≤8) {o:Bytes} (lo:o.length≤8):aB Tryz.prog 73 [G m o] (E (gE m o)):=by
 by_cases ho:o=[]
 ·subst ho;have:=zf m;have e:gE m []=Nr m:=by
   unfold gE Nr;have hv0:aa []=true:=rfl
   cases aa m<;>simp[hv0]
  rw[e];exact this
 have hb:(o==([]:Bytes))=false:=by simpa using ho
 have v1:=aF m;have v2:=aF o;unfold gE
 by_cases hv:aa m=true∧aa o=true
 case neg=>
  have:(aa m&&aa o)=false:=by rw[Bool.eq_false_iff];intro g;simp at g;exact hv g
  rw[this];generalize aa m=b1 at*;generalize aa o=b2 at*;refine eW Tryz.call73 Tryz.func73 ?_;repeat' first|simp only[go_sem,seval]|refine cP v1 ?_|refine cP v2 ?_|refine sB ?_|(first|apply pX|apply bX)<;>intro hc|refine⟨oD,?_⟩|exact oD|fail
  all_goals simp_all
 obtain⟨vm,vo⟩:=hv;have nm:=cE lm;have no:=cE lo;have hop:num o≠0:=fun e=>ho ((qC vo).1 e)
 rw[vm]at v1;rw[vo]at v2;rw[vm,vo,hb];have hs:=Qq (a:=num m) (b:=1) nm (by decide)
 have hcm:=gO o [2];rw[vo,show aa [2]=true from rfl,show num [2]=2 from rfl]at hcm
 simp only[Bool.and_self,if_true]at hcm;have hcl: ∀ _:True,decide (aT (num o) 2<0)=decide (num o<2):=fun _=>by
  rw[Bool.eq_iff_iff];simp[fE]
 have e1:N (num m)= .s m:=congrArg PV.s (dZ vm);have e2:N (num o)= .s o:=congrArg PV.s (dZ vo);rw[e1]at hs;generalize aT (num o) 2=cm at*
 by_cases m0:num m=0
 ·rw[if_neg (by omega),if_neg (by omega)]at hs
  have:(if num m≤1∨num o≤1∨(num m-1)%num o≠0 then(13:Int)else 0)=13:=if_pos (by omega)
  simp only[Bool.and_self,Bool.not_true,Bool.false_eq_true,if_false,this];refine eW Tryz.call73 Tryz.func73 ?_;simp only[go_sem,seval,cA];repeat' first|simp only[go_sem,seval,hb,cA]|refine cP v1 ?_|refine cP v2 ?_|refine cP lH ?_|refine cP hs ?_|refine sB ?_|(first|apply pX|apply bX)<;>intro hc|refine⟨oD,?_⟩|exact oD|fail
  all_goals simp_all
 rw[if_pos (by omega),if_pos (by omega)]at hs
 by_cases m1:num m=1
 ·have:(if num m≤1∨num o≤1∨(num m-1)%num o≠0 then(13:Int)else 0)=13:=if_pos (by omega)
  simp only[Bool.and_self,Bool.not_true,Bool.false_eq_true,if_false,this];rw[m1]at hs;refine eW Tryz.call73 Tryz.func73 ?_;simp only[go_sem,seval,cA];repeat' first|simp only[go_sem,seval,hb,cA,FE]|refine cP v1 ?_|refine cP v2 ?_|refine cP lH ?_|refine cP hs ?_|refine sB ?_|(first|apply pX|apply bX)<;>intro hc|refine⟨oD,?_⟩|exact oD|fail
  all_goals simp_all
 have en:=wX (n:=num m-1) (by omega)
 have hd:=lC (a:=num m-1) (b:=num o) (by omega) no (by omega)
 rw[e2]at hd;have hz: ∀ _:True,(aK ((num m-1)%num o)==([]:Bytes))=decide ((num m-1)%num o=0):=fun _=>by
  rw[Bool.eq_iff_iff];simp[eV]
 by_cases o1:num o<2
 ·have:(if num m≤1∨num o≤1∨(num m-1)%num o≠0 then(13:Int)else 0)=13:=if_pos (by omega)
  simp only[Bool.and_self,Bool.not_true,Bool.false_eq_true,if_false,this];rw[decide_eq_true o1]at hcl;refine eW Tryz.call73 Tryz.func73 ?_;simp only[go_sem,seval,cA];repeat' first|simp only[go_sem,seval,hb,cA,en,hcl trivial]|refine cP v1 ?_|refine cP v2 ?_|refine cP lH ?_|refine cP Oc ?_|refine cP hs ?_|refine cP hcm ?_|refine sB ?_|(first|apply pX|apply bX)<;>intro hc|refine⟨oD,?_⟩|exact oD|fail
  all_goals simp_all
 rw[decide_eq_false o1]at hcl
 by_cases hd0:(num m-1)%num o=0
 ·have:(if num m≤1∨num o≤1∨(num m-1)%num o≠0 then(13:Int)else 0)=0:=if_neg (by omega)
  simp only[Bool.and_self,Bool.not_true,Bool.false_eq_true,if_false,this];rw[hd0]at hd;refine eW Tryz.call73 Tryz.func73 ?_;simp only[go_sem,seval,cA];repeat' first|simp only[go_sem,seval,hb,cA,en,hcl trivial,FE]|refine cP v1 ?_|refine cP v2 ?_|refine cP lH ?_|refine cP Oc ?_|refine cP hs ?_|refine cP hcm ?_|refine cP hd ?_|refine sB ?_|(first|apply pX|apply bX)<;>intro hc|refine⟨oD,?_⟩|exact oD|fail
  all_goals simp_all
 ·have:(if num m≤1∨num o≤1∨(num m-1)%num o≠0 then(13:Int)else 0)=13:=if_pos (by omega)
  simp only[Bool.and_self,Bool.not_true,Bool.false_eq_true,if_false,this];have en2:=wX hd0;refine eW Tryz.call73 Tryz.func73 ?_;simp only[go_sem,seval,cA];repeat' first|simp only[go_sem,seval,hb,cA,en,hcl trivial,en2]|refine cP v1 ?_|refine cP v2 ?_|refine cP lH ?_|refine cP Oc ?_|refine cP hs ?_|refine cP hcm ?_|refine cP hd ?_|refine sB ?_|(first|apply pX|apply bX)<;>intro hc|refine⟨oD,?_⟩|exact oD|fail
  all_goals simp_all
theorem me {m:Bytes} (lm:m.length≤8) (o x:Bytes):aB Tryz.prog 79 [G m o, .s x] (.b (fW m o x)):=by
 by_cases ho:o=[]
 ·subst ho;exact Gd lm x
 ·have hb:(o==([]:Bytes))=false:=by simpa using ho
  have h:=F2 lm o x;unfold fW;rw[hb];simp only[Bool.false_eq_true,if_false];refine eW Tryz.call79 Tryz.func79 ?_;repeat' first|simp only[go_sem,seval,hb]|refine cP h ?_|refine sB ?_|(first|apply pX|apply bX)<;>intro hc|refine⟨oD,?_⟩|exact oD|fail
theorem nu {m:Bytes} (lm:m.length≤8) {o:Bytes} (lo:o.length≤8) (x:Bytes):aB Tryz.prog 32 [G m o, .s x] (.b (fX m o x)):=by
 have h1:=fp lm lo;have h2:=me lm o x;unfold fX;generalize gE m o=z at*;generalize fW m o x=b at*;refine eW Tryz.call32 Tryz.func32 ?_;repeat' first|simp only[go_sem,seval]|refine cP h1 ?_|refine cP h2 ?_|refine sB ?_|(first|apply pX|apply bX)<;>intro hc|refine⟨oD,?_⟩|exact oD|fail
 all_goals simp_all
theorem uc {m:Bytes} (lm:m.length≤8) {o:Bytes} (lo:o.length≤8) {a b:Nat} (hE:gE m o=0) (ha:GP m o a) (hb:GP m o b):aB Tryz.prog 167 [G m o,N a,N b] (.tup [N (a*b%num m),E 0]):=by
 obtain⟨vm,vo,m1,-,-⟩:=fb hE;have hn:=cE lm;have la:=ha.lt;have lb:=hb.lt;have hm:=jU (a:=a) (b:=b) (m:=num m) (by omega) (by omega) hn (by omega)
 have e1:N (num m)= .s m:=congrArg PV.s (dZ vm);rw[e1]at hm;have c1:=aF (aK a);have c2:=aF (aK b);rw[vN (show a<18446744073709551616 by omega)]at c1
 rw[vN (show b<18446744073709551616 by omega)]at c2
 have c3:=fp lm lo;rw[hE]at c3;have c4:=me lm o (aK a);have c5:=me lm o (aK b);rw[ha.has hE lm]at c4;rw[hb.has hE lm]at c5;have hch:aB Tryz.prog 124 [G m o, .sl [N a,N b], .sl [], .b true] (E 0):=by
  refine eW Tryz.call124 Tryz.func124 ?_;repeat' first|simp only[go_sem,seval,List.getD_cons_zero,List.getD_cons_succ]|refine cP c1 ?_|refine cP c2 ?_|refine cP c3 ?_|refine cP c4 ?_|refine cP c5 ?_|(refine ae ?_)|refine sB ?_|(first|apply pX|apply bX)<;>intro hc|refine⟨oD,?_⟩|exact oD|fail
 refine eW Tryz.call167 Tryz.func167 ?_;repeat' first|simp only[go_sem,seval]|refine cP hch ?_|refine cP hm ?_|refine sB ?_|(first|apply pX|apply bX)<;>intro hc|refine⟨oD,?_⟩|exact oD|fail
theorem EN {m:Bytes} (lm:m.length≤8) {o:Bytes} (lo:o.length≤8) {x:Nat} {ng:Bool} {e:Bytes} (hE:gE m o=0) (hx:GP m o x) (he:aa e=true) (hz:(ng&&e==[])=false):aB Tryz.prog 69 [G m o, .sl [N x], .sl [.agg [.b ng, .s e]]] (.tup [N (bJ (num m) x ng (num e)),E 0]):=by
 obtain⟨vm,vo,m1,-,-⟩:=fb hE;have hn:=cE lm;have lx:=hx.lt;have c1:=aF (aK x);rw[vN (show x<18446744073709551616 by omega)]at c1
 have c2:=dJ ng e;rw[he,hz]at c2;have c3:=fp lm lo;rw[hE]at c3;have c4:=me lm o (aK x);rw[hx.has hE lm]at c4;have hch:aB Tryz.prog 124 [G m o, .sl [N x], .sl [.agg [.b ng, .s e]], .b true] (E 0):=by
  refine eW Tryz.call124 Tryz.func124 ?_;repeat' first|simp only[go_sem,seval,List.getD_cons_zero,List.getD_cons_succ]|refine cP c1 ?_|refine cP c2 ?_|refine cP c3 ?_|refine cP c4 ?_|(refine ae ?_)|refine sB ?_|(first|apply pX|apply bX)<;>intro hc|refine⟨oD,?_⟩|exact oD|fail
 have hbt:=oO he;have hbi:=fun i hi=>pj he i hi
 have hinv:=kO (a:=x) (m:=num m) (by omega) hn (by omega) hx.LZ
 have hil:=hx.unit.inv.1;clear c1 c2 c3 c4;unfold bJ;obtain⟨n,hnn⟩: ∃n,n=num e:=⟨_,rfl⟩;obtain⟨M,hM⟩: ∃M,M=num m:=⟨_,rfl⟩;have eG:G m o= .agg [N M, .s o]:=by rw[hM,show N (num m)= .s m from congrArg PV.s (dZ vm)]
 rw[eG]at hch⊢;rw[←hM]at lx hn m1 hinv hil;rw[←hnn]at hbt hbi;rw[←hnn,←hM];clear hx;have hbl:dh n<1000000:=by
  have h1:n<2^1024:=by
   rw[hnn];refine Nat.lt_of_lt_of_le (bR e) ?_;have le:e.length≤128:=by simp[aa]at he;exact he.1
   exact Nat.le_trans (Nat.pow_le_pow_right (by decide) le) (by decide+kernel)
  unfold dh;split
  ·decide
  ·rename_i h;have:=(Nat.log2_lt h).2 h1;omega
 have hmx: ∀ _:True,(if(dh n:Int)>0 then(dh n:Int)else 0)=(dh n:Int):=fun _=>by split<;>omega
 have hM1:1%M=1:=Nat.mod_eq_of_lt (by omega)
 have hw1: ∀ _:True,IntKind.i64.wrap ((dh n:Int)-1)=(dh n:Int)-1:=fun _=>IntWalk.i64_in _ (by omega)
 cases ng
 ·simp only[Bool.false_eq_true,if_false];obtain⟨xm,hxm⟩: ∃xm,xm=x:=⟨_,rfl⟩;rw[←hxm]at hch lx⊢;refine eW Tryz.call69 Tryz.func69 ?_;repeat' first|simp only[go_sem,seval,List.getD_cons_zero,List.getD_cons_succ,Cw,sC,j6,CZ,hmx trivial,hw1 trivial,cA]|refine cP hch ?_|refine cP hbt ?_|refine cP lH ?_|refine sB ?_|(first|apply pX|apply bX)<;>intro hc|refine⟨oD,?_⟩|exact oD|fail
  refine ae ?_;repeat' first|simp only[go_sem,seval,List.getD_cons_zero,List.getD_cons_succ,Cw,sC,j6,CZ,hmx trivial,hw1 trivial,cA]|refine cP hch ?_|refine cP hbt ?_|refine cP lH ?_|refine sB ?_|(first|apply pX|apply bX)<;>intro hc|refine⟨oD,?_⟩|exact oD|fail
  refine ae ?_;repeat' first|simp only[go_sem,seval,List.getD_cons_zero,List.getD_cons_succ,Cw,sC,j6,CZ,hmx trivial,hw1 trivial,cA]|refine cP hch ?_|refine cP hbt ?_|refine cP lH ?_|refine sB ?_|(first|apply pX|apply bX)<;>intro hc|refine⟨oD,?_⟩|exact oD|fail
  refine aj (α:=Nat) (fun k=>k) (fun k=>⟨[(2, .v (.sl [.agg [.b false, .s e]])),(9, .rs 1017 0 0 1 1),(15, .p 1052 0 0),(16, .fn (.func 127) [] [.p 1052 0 0, .p 1000 0 0]),(17, .v (.i .i64 ((k:Int)-1)))],[(1052,⟨0,[.v (N (xm^(n/2^k)%M))],false,some 22⟩),(1017,⟨0,[.v (N xm)],false,none⟩),(1000,⟨0,[.v (N M), .v (.s o)],false,none⟩)],_⟩) (fun k=>k≤dh n) (dh n) (fun _=>Nat.le_refl _) (Nat.le_refl _) ?_ ?_
  ·(refine AS.Le.of (by first|decide|omega) ?_ ?_<;>simp[bL,bK,aD,ai,AV.bd,AV.bd.bdL,u8,af,ah,ak])
   rw[Kk,Nat.pow_zero,hM1]
  ·intro k hk R hR
   cases k with
   |zero=>
    repeat' first|simp only[go_sem,seval]|refine sB ?_|(first|apply pX|apply bX)<;>intro hc|refine⟨oD,?_⟩|exact oD|fail
    rw[Nat.div_one]
   |succ k=>
    obtain⟨z,hz⟩: ∃z,z=xm^(n/2^(k+1))%M:=⟨_,rfl⟩;have hzm:z<M:=by rw[hz];exact Nat.mod_lt _ (by omega)
    have e1: ∀ _:True,((k+1:Nat):Int)-1=(k:Int):=fun _=>by omega
    have hge: ∀ _:True,decide ((k:Int)≥0)=true:=fun _=>by simp
    have hbit:=hbi k (by omega)
    have hdec:n.testBit k=decide (n/2^k%2=1):=Nat.testBit_eq_decide_div_mod_eq;rw[hdec]at hbit;have hwk: ∀ _:True,IntKind.i64.wrap ((k:Int)-1)=(k:Int)-1:=fun _=>IntWalk.i64_in _ (by omega)
    have hdd:n/2^(k+1)=n/2^k/2:=by rw[Nat.pow_succ,Nat.div_div_eq_div_mul]
    have hzz:z*z%M<M:=Nat.mod_lt _ (by omega)
    rw[←hz];have hx1:=fun nm=>gM 1052 1000 nm (by decide) o (some 22) none (a:=z) (b:=z) (m:=M) (by omega) (by omega) (by omega) (by omega)
    have hx2:=fun nm=>gM 1052 1000 nm (by decide) o (some 22) none (a:=z*z%M) (b:=xm) (m:=M) (by omega) (by omega) (by omega) (by omega)
    repeat' first|simp only[go_sem,seval,e1 trivial,hge trivial,List.getD_cons_zero,List.getD_cons_succ,j6]|(refine aP (hx1 _) (by simp[ai]) ?_)|refine sB ?_|(first|apply pX|apply bX)<;>intro hc|refine⟨oD,?_⟩|exact oD|fail
    refine ae ?_;repeat' first|simp only[go_sem,seval,hge trivial,hwk trivial,List.getD_cons_zero,List.getD_cons_succ,j6]|refine cP hbit ?_|(refine aP (hx2 _) (by simp[ai]) ?_)|(refine ae ?_)|refine sB ?_|(first|apply pX|apply bX)<;>intro hc|refine⟨oD,?_⟩|exact oD|fail
    ·have hb2:n/2^k=2*(n/2^(k+1))+1:=by omega
     refine hR k (by omega) (by omega) _ ?_
     have ez:z*z%M*xm%M=xm^(n/2^k)%M:=by
      have e3:z*z%M=xm^(n/2^(k+1))*xm^(n/2^(k+1))%M:=by rw[hz,←Nat.mul_mod]
      rw[hb2,Nat.pow_succ,Nat.two_mul,Nat.pow_add,e3,Nat.mod_mul_mod]
     rw[←ez];exact lE
    ·have hb2:n/2^k=2*(n/2^(k+1)):=by omega
     refine hR k (by omega) (by omega) _ ?_
     have ez:z*z%M=xm^(n/2^k)%M:=by
      rw[hb2,Nat.two_mul,Nat.pow_add,hz,←Nat.mul_mod]
     rw[←ez];exact lE
 ·simp only[if_true];obtain⟨xm,hxm⟩: ∃xm,xm=cL x M:=⟨_,rfl⟩;rw[←hxm]at hinv hil⊢;refine eW Tryz.call69 Tryz.func69 ?_;repeat' first|simp only[go_sem,seval,List.getD_cons_zero,List.getD_cons_succ,Cw,sC,j6,CZ,hmx trivial,hw1 trivial,cA]|refine cP hch ?_|refine cP hbt ?_|refine cP lH ?_|refine cP hinv ?_|refine sB ?_|(first|apply pX|apply bX)<;>intro hc|refine⟨oD,?_⟩|exact oD|fail
  refine ae ?_;repeat' first|simp only[go_sem,seval,List.getD_cons_zero,List.getD_cons_succ,Cw,sC,j6,CZ,hmx trivial,hw1 trivial,cA]|refine cP hch ?_|refine cP hbt ?_|refine cP lH ?_|refine cP hinv ?_|refine sB ?_|(first|apply pX|apply bX)<;>intro hc|refine⟨oD,?_⟩|exact oD|fail
  refine ae ?_;repeat' first|simp only[go_sem,seval,List.getD_cons_zero,List.getD_cons_succ,Cw,sC,j6,CZ,hmx trivial,hw1 trivial,cA]|refine cP hch ?_|refine cP hbt ?_|refine cP lH ?_|refine cP hinv ?_|refine sB ?_|(first|apply pX|apply bX)<;>intro hc|refine⟨oD,?_⟩|exact oD|fail
  refine aj (α:=Nat) (fun k=>k) (fun k=>⟨[(2, .v (.sl [.agg [.b true, .s e]])),(9, .rs 1017 0 0 1 1),(15, .p 1068 0 0),(16, .fn (.func 127) [] [.p 1068 0 0, .p 1000 0 0]),(17, .v (.i .i64 ((k:Int)-1)))],[(1068,⟨0,[.v (N (xm^(n/2^k)%M))],false,some 22⟩),(1017,⟨0,[.v (N xm)],false,none⟩),(1000,⟨0,[.v (N M), .v (.s o)],false,none⟩)],_⟩) (fun k=>k≤dh n) (dh n) (fun _=>Nat.le_refl _) (Nat.le_refl _) ?_ ?_
  ·(refine AS.Le.of (by first|decide|omega) ?_ ?_<;>simp[bL,bK,aD,ai,AV.bd,AV.bd.bdL,u8,af,ah,ak])
   rw[Kk,Nat.pow_zero,hM1]
  ·intro k hk R hR
   cases k with
   |zero=>
    repeat' first|simp only[go_sem,seval]|refine sB ?_|(first|apply pX|apply bX)<;>intro hc|refine⟨oD,?_⟩|exact oD|fail
    rw[Nat.div_one]
   |succ k=>
    obtain⟨z,hz⟩: ∃z,z=xm^(n/2^(k+1))%M:=⟨_,rfl⟩;have hzm:z<M:=by rw[hz];exact Nat.mod_lt _ (by omega)
    have e1: ∀ _:True,((k+1:Nat):Int)-1=(k:Int):=fun _=>by omega
    have hge: ∀ _:True,decide ((k:Int)≥0)=true:=fun _=>by simp
    have hbit:=hbi k (by omega)
    have hdec:n.testBit k=decide (n/2^k%2=1):=Nat.testBit_eq_decide_div_mod_eq;rw[hdec]at hbit;have hwk: ∀ _:True,IntKind.i64.wrap ((k:Int)-1)=(k:Int)-1:=fun _=>IntWalk.i64_in _ (by omega)
    have hdd:n/2^(k+1)=n/2^k/2:=by rw[Nat.pow_succ,Nat.div_div_eq_div_mul]
    have hzz:z*z%M<M:=Nat.mod_lt _ (by omega)
    rw[←hz];have hx1:=fun nm=>gM 1068 1000 nm (by decide) o (some 22) none (a:=z) (b:=z) (m:=M) (by omega) (by omega) (by omega) (by omega)
    have hx2:=fun nm=>gM 1068 1000 nm (by decide) o (some 22) none (a:=z*z%M) (b:=xm) (m:=M) (by omega) (by omega) (by omega) (by omega)
    repeat' first|simp only[go_sem,seval,e1 trivial,hge trivial,List.getD_cons_zero,List.getD_cons_succ,j6]|(refine aP (hx1 _) (by simp[ai]) ?_)|refine sB ?_|(first|apply pX|apply bX)<;>intro hc|refine⟨oD,?_⟩|exact oD|fail
    refine ae ?_;repeat' first|simp only[go_sem,seval,hge trivial,hwk trivial,List.getD_cons_zero,List.getD_cons_succ,j6]|refine cP hbit ?_|(refine aP (hx2 _) (by simp[ai]) ?_)|(refine ae ?_)|refine sB ?_|(first|apply pX|apply bX)<;>intro hc|refine⟨oD,?_⟩|exact oD|fail
    ·have hb2:n/2^k=2*(n/2^(k+1))+1:=by omega
     refine hR k (by omega) (by omega) _ ?_
     have ez:z*z%M*xm%M=xm^(n/2^k)%M:=by
      have e3:z*z%M=xm^(n/2^(k+1))*xm^(n/2^(k+1))%M:=by rw[hz,←Nat.mul_mod]
      rw[hb2,Nat.pow_succ,Nat.two_mul,Nat.pow_add,e3,Nat.mod_mul_mod]
     rw[←ez];exact lE
    ·have hb2:n/2^k=2*(n/2^(k+1)):=by omega
     refine hR k (by omega) (by omega) _ ?_
     have ez:z*z%M=xm^(n/2^k)%M:=by
      rw[hb2,Nat.two_mul,Nat.pow_add,hz,←Nat.mul_mod]
     rw[←ez];exact lE
theorem eX {m:Bytes} (lm:m.length≤8) {o:Bytes} (lo:o.length≤8) {x:Nat} {ng:Bool} {e:Bytes} (hE:gE m o=0) (hx:GP m o x) (he:aa e=true) (hz:(ng&&e==[])=false):aB Tryz.prog 46 [G m o,N x, .agg [.b ng, .s e]] (.tup [N (bJ (num m) x ng (num e)),E 0]):=by
 have hp:=EN lm lo hE hx he hz;refine eW Tryz.call46 Tryz.func46 ?_;repeat' first|simp only[go_sem,seval]|refine cP hp ?_|refine sB ?_|(first|apply pX|apply bX)<;>intro hc|refine⟨oD,?_⟩|exact oD|fail
end Go.Proofs.YtmobkhegihemeaaGreatDoor
