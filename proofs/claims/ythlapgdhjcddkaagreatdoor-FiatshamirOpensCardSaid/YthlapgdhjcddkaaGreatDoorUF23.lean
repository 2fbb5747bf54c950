/- Part of the proof. -/
import Derived.Test.YthlapgdhjcddkaaGreatDoorUF22
import Derived.Test.YthlapgdhjcddkaaGreatDoorUF20
set_option linter.all false
set_option maxHeartbeats 16000000
set_option maxRecDepth 100000
namespace Go.Proofs.Tryz
open Go Go.Dom Go.Num
def X7 (m:Bytes):Int:=if !ae m then 3 else if jE m []then 0 else 13
theorem H8 (m:Bytes):aH 273 [G m []] (E (X7 m)):=by
 have hv:=aX m;have hv0:=aX [];rw[show ae []=true from rfl]at hv0
 by_cases h:ae m=true
 ·have hb:=zp h 0 oC;have hcm:=nk m [8];rw[h]at hv;rw[h,show ae [8]=true from rfl,show num [8]=8 from rfl]at hcm
  have he:a7 (num m) 8<=0↔ ¬8<num m:=by unfold a7;split<;>(try split)<;>omega
  have e:X7 m=if(num m).testBit 0&&decide (8<num m)then 0 else 13:=by simp[X7,jE,h]
  rw[e];clear e;generalize (num m).testBit 0=tb at*;refine eW call273 func273 ?_;exact QR @nn @hv @hv0 @hb @Of8 @hcm oT oT
 ·have h:ae m=false:=by simpa using h
  rw[h]at hv;have e:X7 m=3:=by simp[X7,h]
  rw[e];refine eW call273 func273 ?_;exact z1 @hv
theorem Pu {m:Bytes} (lm:m.length<=8) (x:Bytes):aH 274 [G m [], .s x] (.b (Bb m [] x)):=by
 have h:=TJ lm [] x;refine eW call274 func274 ?_;exact iE @nn @h
end Go.Proofs.Tryz
namespace Go.Proofs.Tryz
open Go Go.Dom Go.Num
structure Par where
 (c sl mm mo mg mh wm wo wg wh se at' ha el es bl ma:Bytes)
def Par.pv (p:Par):PV:= .agg [.s p.c, .s p.sl, .s p.mm, .s p.mo, .s p.mg, .s p.mh, .s p.wm, .s p.wo, .s p.wg, .s p.wh, .s p.se, .s p.at', .s p.ha, .s p.el, .s p.es, .s p.bl, .s p.ma]
def Par.Xd (p:Par):List Bytes:=[p.c,p.sl,p.se,p.at',p.ha,p.el,p.es,p.bl,p.ma,p.mm,p.mo,p.mg,p.mh,p.wm,p.wo,p.wg,p.wh]
theorem Dj {x:Bytes} (h:ae x=true):aH 72 [.s x, .s [2]] (E (a7 (num x) 2)):=by
 have:=nk x [2]
 rwa[h,show ae [2]=true from rfl,show num [2]=2 from rfl]at this
theorem nA {x y:Bytes} (h:ae x=true) (g:ae y=true):aH 72 [.s x, .s y] (E (a7 (num x) (num y))):=by
 have:=nk x y
 rwa[h,g]at this
theorem Nj (a b:Nat):(a7 a b>0)=(b<a):=by
 unfold a7;rw[eq_iff_iff];split<;>(try split)<;>omega
end Go.Proofs.Tryz
namespace Go.Proofs.Tryz
open Go Go.Dom Go.RowKit Go.Shelf
structure Key where
 (name m o z s:Bytes)
 r:List Bytes
 (u h:Bytes)
def Key.pv (k:Key):PV:= .agg [.s k.name, .s k.m, .s k.o, .s k.z, .s k.s, .sl (k.r.map .s), .s k.u, .s k.h]
end Go.Proofs.Tryz
namespace Go.Proofs.Tryz
open Go Go.Dom Go.Num


theorem fJ {l:List Bytes} {x:Nat} (h:x<l.length):(l.map PV.s).getD x .fn0= .s (l.getD x []):=by
 simp[bu,h]
theorem Dh {l:List Bytes} {y:PV} (h:y∈l.map PV.s):y.cells.length=1:=by
 obtain⟨c,_,rfl⟩:=cx.1 h;rfl
def dk {α:Type} (p:α->Bool):Nat->List α->Int
 | _,[]=> -1
 |k,x::r=>if p x then(k:Int)else dk p (k+1) r
theorem gZ {α:Type} {p:α->Bool}: ∀{l:List α} {k:Nat},0<=dk p k l↔l.any p=true
 |[],k=>by simp[dk]
 |x::r,k=>by
  simp only[dk,List.any_cons];split
  ·rename_i h;simp[h]
  ·rename_i h;simp only[Bool.not_eq_true]at h;rw[gZ,h,eH]
theorem drop_cons {l:List Bytes} {i:Nat} (h:i<l.length):l.drop i=l.getD i []::l.drop (i+1):=by
 rw[kJ h,bu,bC h];rfl
theorem Bz (l:List Bytes) (f:FuncId) (p:Bytes->Bool) (hl:l.length<4611686018427387904) (h: ∀x,aH f [.s x] (.b (p x))):aH 73 [.sl (l.map .s), .fn (.func f)] (E (dk p 0 l)):=by
 refine eW call73 func73 ?_;refine pO ?_;refine ah (α:=Nat) (fun i=>l.length-i) (fun i=>⟨[(0, .v (.sl (l.map .s))),(1, .v (.fn (.func f))),(7, .v (.i .i64 l.length)),(8, .v (.i .i64 (i:Nat)))],[],_⟩) (fun i=>i<=l.length/\dk p i (l.drop i)=dk p 0 l) 0 (fun _=>aA _) ⟨aD _,rfl⟩ ?_ ?_
 ·exact lE
 ·rintro i ⟨hi,hx⟩ R hR;rw[<-hx]
  by_cases hlt:i<l.length
  ·have e1:=fJ hlt;have hf:=h (l.getD i []);have hgo:=hR (i+1);rw[<-hx,drop_cons hlt]at hgo;rw[drop_cons hlt];simp only[dk]at hgo⊢;clear hx hR h;generalize p (l.getD i [])=b at*;repeat' first|simp only[go_sem,seval,e1]|refine cP hf ?_|refine oE ?_|apply xX<;>intro hc
   all_goals first
    |(refine hgo ⟨oO,by simp_all⟩ oO _ ?_;(refine AS.Le.of (by first|decide|omega) ?_ ?_<;>simp[cU,cT,aO,az,AV.bd,AV.bd.bdL,u8,aj,ak,an]);done)
    |(simp_all;done)
    |skip
  ·obtain rfl:i=l.length:=oO;rw[bw];repeat' first|simp only[go_sem,seval]|refine oE ?_|apply xX<;>intro hc
   all_goals simp[dk]
theorem vZ (l:List Bytes) (f:FuncId) (p:Bytes->Bool) (hl:l.length<4611686018427387904) (h: ∀x,aH f [.s x] (.b (p x))):aH 31 [.sl (l.map .s), .fn (.func f)] (.b (l.any p)):=by
 have hi:=Bz l f p hl h;have e:decide (dk p 0 l>=0)=l.any p:=by
  rw[cu,decide_eq_true_iff];exact gZ
 refine eW call31 func31 ?_;exact iE @e @hi
abbrev T (vs:List Bytes) (sd:Bytes) (at':Int):PV:= .agg [.sl (vs.map .s), .s sd, .i .i64 at']
theorem NV (x:Bytes):aH 350 [.s x] (.b (!ae x)):=by
 have hv:=aX x;refine eW call350 func350 ?_;exact z1 @hv
def kj (vs:List Bytes) (at':Int):Bool:=decide (at'>=0)&&decide (at'<=2147483647)&& !(vs.any fun x=> !ae x)
theorem Dk (vs:List Bytes) (sd:Bytes) (at':Int) (hl:vs.length<4611686018427387904):aH 297 [T vs sd at'] (.b (kj vs at')):=by
 have hcf:=vZ vs _ (fun x=> !ae x) hl NV
 unfold kj;generalize (vs.any fun x=> !ae x)=b at*
 refine eW call297 func297 ?_;repeat' first|simp only[go_sem,seval]|refine cP hcf ?_|refine oE ?_|apply xX<;>intro hc
 all_goals simp_all
 all_goals (intros;omega)
def wX (vs:List Bytes) (at':Int) (n:Bytes):Int:=if !(kj vs at'&&ae n)then 3 else if n=[]then 11 else 0
theorem Bc (vs:List Bytes) (sd:Bytes) (at':Int) (n:Bytes) (hl:vs.length<4611686018427387904):aH 215 [T vs sd at', .s n] (E (wX vs at' n)):=by
 have hg:=Dk vs sd at' hl;have hv:=aX n;unfold wX;generalize kj vs at'=b at*;generalize ae n=b2 at*;refine eW call215 func215 ?_;exact Ut @hg @hv
def Nt (vs:List Bytes) (sd:Bytes) (i:Nat) (n:Bytes):PV:=
 if num n<=num (vs.getD i [])then .tup [.s [],T [] [] 0,E 2]else .tup [.s (vs.getD i []),T vs sd (i+1:Nat),E 0]
theorem Aa (l:List Bytes):(l.map PV.s).flatMap PV.cells=l.map PV.s:=by
 induction l with
 |nil=>rfl
 |cons x r ih=>simp_all[PV.cells]
theorem Pa {l:List Bytes} {y:AV} (h:y∈List.map AV.v (List.flatMap PV.cells (l.map PV.s))):y.one=true:=by
 rw[Aa,iK]at h;obtain⟨c,_,rfl⟩:=cx.1 h;rfl
theorem nC (n:Nat) (x:AV):(List.replicate n [x]).flatten.length=n:=by
 induction n with
 |zero=>rfl
 |succ n ih=>rw[List.replicate_succ,List.flatten_cons,bR,ih,List.length_singleton];omega
theorem T2 (vs:List Bytes):List.drop vs.length (List.replicate vs.length [AV.v (PV.s [])]).flatten=[]/\(List.map AV.v (List.map PV.s vs)).all AV.one=true/\List.take vs.length (List.map AV.v (List.map PV.s vs))=List.map AV.v (List.map PV.s vs)/\chunk 1 vs.length (List.map PV.s vs)=List.map PV.s vs:=by
 refine⟨?_,?_,?_,?_⟩
 ·rw[gG (by rw[nC];exact aA _)]
 ·simp[bz,AV.one,PV.one]
 ·rw[cQ (by simp)]
 ·have:=zQ (List.map PV.s vs);rwa[au]at this
theorem FL {vs:List Bytes} {i:Nat} (hi:i<vs.length):vs.getD i []∈vs:=by
 rw[bu,bC hi];exact j7 hi
theorem Sp {vs:List Bytes} (sd:Bytes) {i:Nat} {n:Bytes} (hv:vs.all ae=true) (hn:ae n=true) (hi:i<vs.length) (hl:vs.length<1000000):aH 216 [T vs sd i, .s n] (Nt vs sd i n):=by
 have hx:ae (vs.getD i [])=true:=bz.1 hv _ (FL hi);have hcm:=nk (vs.getD i []) n;rw[hx,hn]at hcm;simp only[dF,aC]at hcm;have e1:=fJ hi;have e2:(a7 (num (vs.getD i [])) (num n)>=0)=(num n<=num (vs.getD i [])):=zR _ _;unfold Nt;generalize a7 (num (vs.getD i [])) (num n)=cm at*
 by_cases hle:num n<=num (vs.getD i [])
 ·rw[af hle];have e3:cm>=0:=by rw[e2];exact hle
  refine eW call216 func216 ?_;repeat' first|simp only[go_sem,seval,e1]|refine cP hcm ?_|refine oE ?_|apply xX<;>intro hc
  rfl
 ·rw[aa hle];have e3: ¬cm>=0:=by rw[e2];exact hle
  refine eW call216 func216 ?_;refine gR @e1 @hcm ?_;refine⟨⟨fun x hx=>Dh hx,fun y hy=>Pa hy,by rw[nC];exact aA _⟩,?_⟩
  obtain⟨r1,r2,r3,r4⟩:=T2 vs;refine dw (aN @e1 (aN @nC (aN @Aa (aN @r1 (aN @r2 (aN @r3 (aN @r4 @iW))))))) ?_;simp
end Go.Proofs.Tryz
namespace Go.Proofs.Tryz
open Go Go.Dom
variable {x y:Int}
def zs (x:Int):Bool:=decide (x<0)
def zb (x:Int):Bytes:=b7 x.natAbs
abbrev Z (x:Int):PV:= .agg [.b (zs x), .s (zb x)]
def eB:Nat:=340282366920938463463374607431768211456
theorem BS:eB<=ek:=by unfold ek eB;decide+kernel
theorem G5:eB*eB<=ek:=by unfold ek eB;decide+kernel
theorem vB {n:Nat} (h:n<ek):ae (b7 n)=true:=rZ h
theorem nR (n:Nat):zb (n:Int)=b7 n:=rfl
theorem nS (n:Nat):zs (n:Int)=false:=by simp[zs]
theorem wO (x:Int):num (zb x)=x.natAbs:=bG _
theorem YF (x:Int):(zb x==([]:Bytes))=decide (x=0):=by
 unfold zb;rw[cu];simp[jh]
theorem YL (h:x.natAbs<ek):(ae (zb x)&& !(zs x&&zb x==[]))=true:=by
 rw[YF,show ae (zb x)=true from vB h]
 simp[zs];omega
theorem zmk (b:Bool) (n:Nat):(.agg [.b (b&& !(b7 n==[])),N n]:PV)=Z (if b then-(n:Int)else n):=by
 by_cases h:n=0
 ·subst h;cases b<;>rfl
 ·have e:(b7 n==([]:Bytes))=false:=tF h;cases b
  ·simp[Z,zs,zb]
  ·have:decide (-(n:Int)<0)=true:=aQ oO;simp[Z,zs,zb,e,h];omega
theorem abr (x y:Int):(if(zs x !=zs y)then-((x.natAbs*y.natAbs:Nat):Int)else((x.natAbs*y.natAbs:Nat):Int))=x*y:=by
 rw[Int.natCast_mul];unfold zs
 by_cases h1:x<0<;>by_cases h2:y<0<;>simp only[h1,h2,decide_true,decide_false,iz,cE,aB]
 ·have e1:(x.natAbs:Int)= -x:=oO;have e2:(y.natAbs:Int)= -y:=oO;rw[e1,e2,Int.neg_mul_neg]
 ·have e1:(x.natAbs:Int)= -x:=oO;have e2:(y.natAbs:Int)=y:=oO;simp only[Bool.bne_false,aC];rw[e1,e2,vP,Int.neg_neg]
 ·have e1:(x.natAbs:Int)=x:=oO;have e2:(y.natAbs:Int)= -y:=oO;simp only[Bool.false_bne,aC];rw[e1,e2,oP,Int.neg_neg]
 ·have e1:(x.natAbs:Int)=x:=oO;have e2:(y.natAbs:Int)=y:=oO;rw[e1,e2]
theorem Vo (h:zs x=zs y):(if zs x then-((x.natAbs+y.natAbs:Nat):Int)else((x.natAbs+y.natAbs:Nat):Int))=x+y:=by
 unfold zs at*
 by_cases h1:x<0<;>by_cases h2:y<0<;>simp[h1,h2]at h⊢ <;>omega
theorem QM (h:zs x≠zs y) (hl:y.natAbs<=x.natAbs):(if zs x then-((x.natAbs-y.natAbs:Nat):Int)else((x.natAbs-y.natAbs:Nat):Int))=x+y:=by
 unfold zs at*
 by_cases h1:x<0<;>by_cases h2:y<0<;>simp[h1,h2]at h⊢ <;>omega
theorem Vp (h:zs x≠zs y) (hl:x.natAbs<=y.natAbs):(if zs y then-((y.natAbs-x.natAbs:Nat):Int)else((y.natAbs-x.natAbs:Nat):Int))=x+y:=by
 rw[Int.add_comm];exact QM (aY h) hl
theorem abt (y:Int):(if !zs y then-(y.natAbs:Int)else(y.natAbs:Int))= -y:=by
 unfold zs
 by_cases h:y<0<;>simp[h]<;>omega
theorem dY {a b:Nat}:(0<=a7 a b)↔b<=a:=by unfold a7;split<;>(try split)<;>omega
end Go.Proofs.Tryz
namespace Go.Proofs.Tryz
open Go Go.Dom Go.Num
variable {a b:Nat} {x x1 y:Int}
theorem Te (h:a*b<ek) (ha:a<ek) (hb:b<ek):aH 197 [N a,N b] (.tup [N (a*b),E 0]):=by
 have:=VK (b7 a) (b7 b);simp only[xV,vB ha,vB hb,dF,aC,bG,h]at this;exact this
theorem VR (h:a+b<ek):aH 204 [N a,N b] (.tup [N (a+b),E 0]):=by
 have:=Vr (b7 a) (b7 b);simp only[BE,vB (show a<ek by omega),vB (show b<ek by omega),dF,aC,bG,h]at this
 exact this
theorem Bl (h:b<=a) (ha:a<ek):aH 202 [N a,N b] (.tup [N (a-b),E 0]):=by
 have:=Mm (b7 a) (b7 b);simp only[xc,vB ha,vB (show b<ek by omega),dF,aC,bG,h]at this
 exact this
theorem zS (ha:a<ek) (hb:b<ek):aH 72 [N a,N b] (E (a7 a b)):=by
 have:=nk (b7 a) (b7 b);simp only[vB ha,vB hb,dF,aC,bG]at this;exact this
theorem Ek (h:x.natAbs<ek):aH 122 [Z x] (.b true):=by
 have:=gY (zs x) (zb x)
 rwa[YL h]at this
theorem MS (hx:x.natAbs<ek) (hy:y.natAbs<ek):aH 196 [Z x,Z y] (.b true):=by
 have v1:=Ek hx;have v2:=Ek hy;refine eW call196 func196 ?_;repeat' first|simp only[go_sem,seval,Z]|refine cP v1 ?_|refine cP v2 ?_|refine oE ?_|apply xX<;>intro hc
theorem Au (b:Bool) (n:Nat) {z:Int} (h:(if b then-(n:Int)else n)=z):aH 61 [.b b,N n] (Z z):=by
 have:=rQ b (b7 n);rw[zmk,h]at this;exact this
theorem B3 {n:Nat} (h:n<ek):aH 108 [N n] (Z n):=yj (vB h)
theorem abV:aH 25 [E 1] (Z 1):=by
 have h1:=iC 1 oC;have hm:=Au false 1 rfl;refine eW call25 func25 ?_;repeat' first|simp only[go_sem,seval,Z]|refine cP h1 ?_|refine cP hm ?_|refine oE ?_|apply xX<;>intro hc
theorem abU:aH 25 [E 0] (Z 0):=by
 have h1:=iC 0 oC;have hm:=Au false 0 rfl;refine eW call25 func25 ?_;repeat' first|simp only[go_sem,seval,Z]|refine cP h1 ?_|refine cP hm ?_|refine oE ?_|apply xX<;>intro hc
theorem abT (h:y.natAbs<ek):aH 198 [Z y] (Z (-y)):=by
 have hv:=Ek h;have hm:=Au (!zs y) y.natAbs (abt y);refine eW call198 func198 ?_;repeat' first|simp only[go_sem,seval,Z]|refine cP hv ?_|refine cP hm ?_|refine oE ?_|apply xX<;>intro hc
theorem N3 (hx:x.natAbs<ek) (hy:y.natAbs<ek) (h:x.natAbs*y.natAbs<ek):aH 107 [Z x,Z y] (.tup [Z (x*y),E 0]):=by
 have hb:=MS hx hy;have hm:=Te h hx hy;have hk:=Au (zs x !=zs y) (x.natAbs*y.natAbs) (abr x y);refine eW call107 func107 ?_;repeat' first|simp only[go_sem,seval,Z]|refine cP hb ?_|refine cP hm ?_|refine cP hk ?_|refine oE ?_|apply xX<;>intro hc
theorem N4 (hx:x.natAbs<eB) (hy:y.natAbs<eB):aH 107 [Z x,Z y] (.tup [Z (x*y),E 0]):=
 have hw:=BS
 N3 oO oO (bM (fT hx hy) G5)
theorem FU (hlim:x.natAbs+y.natAbs<ek):aH 113 [Z x,Z y] (.tup [Z (x+y),E 0]):=by
 have hb0:=MS (x:=x) (y:=y) oO oO
 by_cases hs:zs x=zs y
 ·have ha:=VR hlim;have hk:=Au (zs x) (x.natAbs+y.natAbs) (Vo hs);have hb: ∀ _:True,(zs x==zs y)=true:=fun _=>by rw[hs];simp
  clear hs hlim;refine eW call113 func113 ?_;repeat' first|simp only[go_sem,seval,Z,hb oT]|refine cP hb0 ?_|refine cP ha ?_|refine cP hk ?_|refine oE ?_|apply xX<;>intro hc
 have hb: ∀ _:True,(zs x==zs y)=false:=fun _=>by simpa using hs
 have hcm:=zS (a:=x.natAbs) (b:=y.natAbs) oO oO
 by_cases hl:y.natAbs<=x.natAbs
 ·have hd:=Bl hl oO;have hk:=Au (zs x) (x.natAbs-y.natAbs) (QM hs hl);have hg: ∀ _:True,decide (a7 x.natAbs y.natAbs<0)=false:=fun _=>aS (fun h=>by rw[fZ]at h;omega)
  generalize a7 x.natAbs y.natAbs=cm at*;clear hs hlim;refine eW call113 func113 ?_;repeat' first|simp only[go_sem,seval,Z,hb oT,hg oT]|refine cP hb0 ?_|refine cP hcm ?_|refine cP hd ?_|refine cP hk ?_|refine oE ?_|apply xX<;>intro hc
 ·have hd:=Bl (a:=y.natAbs) (b:=x.natAbs) oO oO;have hk:=Au (zs y) (y.natAbs-x.natAbs) (Vp hs oO);have hg: ∀ _:True,decide (a7 x.natAbs y.natAbs<0)=true:=fun _=>aQ (by rw[fZ];omega)
  generalize a7 x.natAbs y.natAbs=cm at*;clear hs hlim;refine eW call113 func113 ?_;repeat' first|simp only[go_sem,seval,Z,hb oT,hg oT]|refine cP hb0 ?_|refine cP hcm ?_|refine cP hd ?_|refine cP hk ?_|refine oE ?_|apply xX<;>intro hc
theorem ZU (hx:x.natAbs<eB) (hy:y.natAbs<eB):aH 113 [Z x,Z y] (.tup [Z (x+y),E 0]):=
 FU (bM (show _<eB*eB by unfold eB at*;omega) G5)
theorem UU (hlim:x.natAbs+y.natAbs<ek):aH 109 [Z x,Z y] (.tup [Z (x-y),E 0]):=by
 have hb:=MS (x:=x) (y:=y) oO oO;have hn:=abT (y:=y) oO;have ha:=FU (x:=x) (y:= -y) oO;rw[<-Int.sub_eq_add_neg]at ha;refine eW call109 func109 ?_;repeat' first|simp only[go_sem,seval,Z]|refine cP hb ?_|refine cP hn ?_|refine cP ha ?_|refine oE ?_|apply xX<;>intro hc
theorem UW (hx:x.natAbs<eB) (hy:y.natAbs<eB):aH 109 [Z x,Z y] (.tup [Z (x-y),E 0]):=
 UU (bM (show _<eB*eB by unfold eB at*;omega) G5)
theorem vn:(2^64)<=eB:=by decide
theorem jM:(2^64)<=ek:=by unfold ek;decide+kernel
abbrev Z2 (x y:Int):PV:= .agg [.b (zs x), .s (zb x), .b (zs y), .s (zb y)]
theorem Jc {q:Nat} {x0:Int} (hq:q<(2^64)) (h0:x0.natAbs<(2^64)+1) (h1:x1.natAbs<(2^64)+1) (hp:(((q:Nat):Int)*x1).natAbs<eB):aH 385 [Z2 x0 x1, .pt (.agg [N q]) 0] (Z2 x1 (x0-(q:Nat)*x1)):=by
 have w1:=vn;have w2:=jM;have hf:=B3 (n:=q) oO;have hm:=N4 (x:=(q:Int)) (y:=x1) (by rw[Int.natAbs_natCast];omega) (by unfold eB;omega)
 have hs:=UW (x:=x0) (y:=(q:Int)*x1) (by unfold eB;omega) hp
 generalize (q:Int)*x1=v at*;generalize x0-v=u at*;refine eW call385 func385 ?_;repeat' first|simp only[go_sem,seval,Z,nS,nR]|refine cP hf ?_|refine cP hm ?_|refine cP hs ?_|refine oE ?_|apply xX<;>intro hc
theorem JM {r0 r1 B:Nat} (h0:0<r1) (h:x1.natAbs*r0<=B):((((r0/r1:Nat):Int))*x1).natAbs<=B:=by
 rw[mZ,Int.natAbs_natCast];have h1:r0/r1<=r0:=fx _ _;have:=jR x1.natAbs h1;rw[cv]at this;omega
theorem E9 (ha:a<(2^64)) (hb:b<(2^64)) (h0:0<b): ∃X Y:Int,(Nat.gcd a b=1->X.natAbs<(2^64)/\X.natAbs%b=gV a b)/\aH 349 [N a,N b] (.tup [N (Nat.gcd a b),Z X,Z Y,E 0]):=by
 have w1:=vn;have w2:=jM;obtain⟨x',y',hE⟩:=Fy (a:=a) (b:=b) (f:=b+1) oO (tZ.start h0);obtain⟨res,hres⟩: ∃res,res=Fx (b+1) a b 1 0 0 1:=⟨_,rfl⟩;rw[<-hres]at hE;obtain⟨g,X0,Y0⟩:=res;simp only at hE;have hg:=hE.fin;have hgp:0<g:=by rw[hg];exact Nat.gcd_pos_of_pos_right _ h0
 have bx:=hE.bx0;have by':=hE.by0
 have hm1:b/g<=b:=fx _ _;have hk1:a/g<=a:=fx _ _;have v1:=aX (b7 a);have v2:=aX (b7 b);rw[vB (show a<ek by omega)]at v1
 rw[vB (show b<ek by omega)]at v2
 have e0:(b7 b==([]:Bytes))=false:=tF oO;have d1:=tY (a:=b) (b:=g) hb (by have:g<=b:=(by rw[hg];exact EZ _ h0);omega) hgp
 have d2:=tY (a:=a) (b:=g) ha (by have:g<=b:=(by rw[hg];exact EZ _ h0);omega) hgp
 have f1:=B3 (n:=b/g) oO;have f2:=B3 (n:=a/g) oO;have ad:=ZU (x:=X0) (y:=((b/g:Nat):Int)) (by unfold eB;omega) (by rw[Int.natAbs_natCast];unfold eB;omega)
 have sb:=UW (x:=Y0) (y:=((a/g:Nat):Int)) (by unfold eB;omega) (by rw[Int.natAbs_natCast];unfold eB;omega)
 have o1:=abV;have o0:=abU;refine⟨if X0<0 then X0+((b/g:Nat):Int)else X0,if X0<0 then Y0-((a/g:Nat):Int)else Y0,?_,?_⟩
 ·intro h1;have g1:g=1:=by rw[hg];exact h1
  subst g1;obtain⟨k1,k3,k2⟩:=hE.inv h0 _ rfl;rw[jx];exact⟨oO,k2⟩
 ·rw[<-hg];refine eW call349 func349 ?_;simp only[go_sem,seval,Z];repeat' first|simp only[go_sem,seval,e0,Z]|refine cP v1 ?_|refine cP v2 ?_|refine cP o1 ?_|refine cP o0 ?_|refine oE ?_|apply xX<;>intro hc
  refine ah (α:=Nat×Nat×Nat×Int×Int×Int×Int) (fun s=>s.2.2.1) (fun s=>⟨[(0, .v (N a)),(1, .v (N b)),(5, .p 1001 0 0),(6, .p 1002 0 0),(8, .p 1017 0 0),(9, .p 1025 0 0),(10, .p 1026 0 0)],[(1001,⟨0,[.v (.b false), .v (.s [])],false,some 77⟩),(1002,⟨0,[.v (.b false), .v (.s [])],false,some 77⟩),(1017,⟨0,[.v (N s.2.1), .v (N s.2.2.1)],false,some 386⟩),(1025,⟨0,[.v (.b (zs s.2.2.2.1)), .v (.s (zb s.2.2.2.1)), .v (.b (zs s.2.2.2.2.1)), .v (.s (zb s.2.2.2.2.1))],false,some 387⟩),(1026,⟨0,[.v (.b (zs s.2.2.2.2.2.1)), .v (.s (zb s.2.2.2.2.2.1)), .v (.b (zs s.2.2.2.2.2.2)), .v (.s (zb s.2.2.2.2.2.2))],false,some 387⟩)],_⟩) (fun s=>s.2.2.1<s.1/\tZ a b s.2.1 s.2.2.1 s.2.2.2.1 s.2.2.2.2.1 s.2.2.2.2.2.1 s.2.2.2.2.2.2/\s.2.1<(2^64)/\s.2.2.1<(2^64)/\Fx s.1 s.2.1 s.2.2.1 s.2.2.2.1 s.2.2.2.2.1 s.2.2.2.2.2.1 s.2.2.2.2.2.2=(g,X0,Y0)) (b+1,a,b,1,0,0,1) (fun _=>aA _) ⟨by show b<b+1;omega,tZ.start h0,ha,hb,hres.symm⟩ ?_ ?_
  ·exact lE
  ·rintro⟨f,r0,r1,x0,x1,y0,y1⟩ ⟨hf,hS,hr0,hr1,heq⟩ R hR;simp only at hf hS hr0 hr1 heq
   cases f with
   |zero=>omega
   |succ f=>
    unfold Fx at heq
    by_cases hz:r1=0
    ·subst hz;rw[af rfl]at heq;simp only[eJ]at heq;obtain⟨rfl,rfl,rfl⟩:=heq
     by_cases hx:x0<0
     ·have hzs:zs x0=true:=by simp[zs,hx]
      simp only[Z,hzs,nS,nR]at ad f1 f2;simp only[Z,nS,nR]at sb;rw[af hx,af hx];clear hR hres hE hS;repeat' first|simp only[go_sem,seval,HV,Z,hzs,nS,nR]|refine cP d1 ?_|refine cP d2 ?_|refine cP f1 ?_|refine cP f2 ?_|refine cP ad ?_|refine cP sb ?_|refine oE ?_|apply xX<;>intro hc
     ·have hzs:zs x0=false:=by simp[zs,hx]
      rw[aa hx,aa hx];clear hR hres hE hS;repeat' first|simp only[go_sem,seval,HV,Z,hzs]|refine oE ?_|apply xX<;>intro hc
    ·rw[aa hz]at heq;have hpos:0<r1:=oO;have hst:=hS.step hpos;have hml:=aV r0 hpos;have hq:r0/r1<=r0:=fx _ _;have dv:=tY hr0 hr1 hpos;have b1:=hS.bx0;have b2:=hS.bx1;have b3:=hS.by0;have b4:=hS.by1;have b5:=hS.hx;have b6:=hS.hy;have c1:=Jc (q:=r0/r1) (x0:=x0) (x1:=x1) oO oO oO (by have:=JM (r1:=r1) hpos (show x1.natAbs*r0<=b by omega);unfold eB;omega)
     have c2:=Jc (q:=r0/r1) (x0:=y0) (x1:=y1) oO oO oO (by have:=JM (r1:=r1) hpos (show y1.natAbs*r0<=a by omega);unfold eB;omega)
     have en:=tF hz;have hgo:=hR (f,r1,r0%r1,x1,x0-((r0/r1:Nat):Int)*x1,y1,y0-((r0/r1:Nat):Int)*y1) ⟨by show r0%r1<f;omega,hst,hr1,by show r0%r1< _;omega,heq⟩ hml
     clear hR heq hst hS b1 b2 b3 b4 b5 b6 hres hE;generalize x0-((r0/r1:Nat):Int)*x1=u at*;generalize y0-((r0/r1:Nat):Int)*y1=v at*;repeat' first|simp only[go_sem,seval,en,Z,Z2,aW]|refine cP dv ?_|refine cV c1 ?_|refine cV c2 ?_|refine oE ?_|apply xX<;>intro hc
     refine hgo _ ?_;exact lE
theorem sY {a m:Nat} (ha:a<(2^64)) (hm:m<(2^64)) (h0:0<m) (hg:Nat.gcd a m=1):aH 296 [N a,N m] (.tup [N (gV a m),E 0]):=by
 have w1:=vn;have w2:=jM;have hc:=fun nm=>Wv nm (b7 a) (b7 m)
 rw[UM ha hm h0]at hc;have hl:=aV a h0;have hd:=mD ha hm h0;have hg':Nat.gcd (a%m) m=1:=by rw[<-hg,<-mQ,lB]
 obtain⟨X,Y,h1,h3⟩:=E9 (a:=a%m) (b:=m) oO hm h0;obtain⟨h4,h5⟩:=h1 hg';rw[hg']at h3;have hX:X.natAbs%m=gV a m:=by
  rw[h5];obtain⟨g1,g2⟩:=(ky h0 hg').inv;exact(mO g1 (by rw[jt]at g2;exact g2)).symm
 have hr:aH 201 [.s (zb X),N m] (N (gV a m)):=by
  have:=mD h4 hm h0
  rwa[hX]at this
 clear h1 h4 h5 hX;refine eW call296 func296 ?_;repeat' first|simp only[go_sem,seval,Z,XF,fS,iz,eY]|(refine bK (hc _) (by simp) ?_)|refine cP hd ?_|refine cP h3 ?_|refine cP hr ?_|refine oE ?_|apply xX<;>intro hc
theorem nj (n1 n2 nm:Nat) (hne:n1≠n2) {a b m:Nat} (o:Bytes) (el el2:Option TypeId) (ha:a<(2^64)) (hb:b<(2^64)) (hm:m<(2^64)) (h0:0<m):jS prog 343 nm [(n1,⟨0,[.v (N a)],false,el⟩),(n2,⟨0,[.v (N m), .v (.s o)],false,el2⟩)] [.v (N b), .p n1 0 0, .p n2 0 0] (.tup []) [(n1,some ⟨0,[.v (N (a*b%m))],false,el⟩)]:=by
 have hx:=qY ha hb hm h0;refine jS.w mixed call343 func343 rfl (jq.1 _ _ _ (by cbv)) (jq.2 _ _ (by cbv)) (obs:=[⟨0,[.v (N a)],false,el⟩,⟨0,[.v (N m), .v (.s o)],false,el2⟩]) (args:=[.v (N b), .p 0 0 0, .p 1 0 0]) (fs:=[some (some ⟨0,[.v (N (a*b%m))],false,el⟩),none]) (j:=none) (nw:=none) (v:= .tup []) (ns:=[n1,n2]) (obsA:=[⟨0,[.v (N a)],false,el⟩,⟨0,[.v (N m), .v (.s o)],false,el2⟩]) rfl ?_ (by simp) (by simp[hne]) rfl (by simp[bA,aI.aR,AV.aR,AV.aR.renL]) (by simp[bA,AV.aR,dq,hne,aY hne]) (by simp[AV.aR,AV.aR.renL]) (by simp[fh,outs,aI.aR,AV.aR,AV.aR.renL])
 simp only[go_sem,seval];repeat' first|simp only[go_sem,seval,true_or,or_true,false_or,or_false,ar,gX,ey,gM,fp,fH,eA,nT,om,fO,gS,dE,aK,AV.aR,AV.aR.renL,aG]|refine cP hx ?_|refine oE ?_|apply xX<;>intro hc
 all_goals skip
theorem K7 {x:AV}:(List.replicate 1 [x]).flatten=[x]:=rfl
theorem Ci {x:AV}:List.drop 1 [x]=[]:=rfl
theorem rq {x:AV}:List.take 1 [x]=[x]:=rfl
theorem LJ {x y:AV}:List.set [x] 0 y=[y]:=rfl
theorem UH {n:Nat}:n/2^dG n=0:=by
 refine iZ ?_;unfold dG;split
 ·rename_i h;rw[h];decide
 ·rename_i h;exact vI
theorem iO (x:PV) (l:List PV):o7 (.v x::l.map .v)=some (x::l):=by
 have h: ∀l:List PV,o7 (l.map .v)=some l:=by
  intro l
  induction l with
  |nil=>rfl
  |cons y l ih=>
   unfold o7 at ih⊢;rw[b8,bA,ih];rfl
 have:=h (x::l);exact this
end Go.Proofs.Tryz
namespace Go.Dom
theorem zI (k m n:Nat):be (k+m) n=be k (n/256^m)++be m n:=by
 induction k with
 |zero=>simp[be]
 |succ k ih=>
  rw[show k+1+m=(k+m)+1 by omega]
  simp only[be,ih,List.cons_append];rw[ff,<-dD,iM m k]
end Go.Dom
namespace Go.Proofs.Tryz
open Go Go.Dom
end Go.Proofs.Tryz
namespace Go.Proofs.Tryz
open Go Go.Dom
end Go.Proofs.Tryz
namespace Go.Proofs.Tryz
open Go Go.Dom Go.Num
end Go.Proofs.Tryz
namespace Go.Proofs.Tryz
open Go Go.Dom Go.Num
variable {S i len:Nat} {vs:List Bytes}

theorem zT (vs:List Bytes) (sd:Bytes) (at':Int) (a:Nat):aH 351 [T vs sd at', .i .i64 a] (.fc 386 [] [.pt (T vs sd at') 0, .pt (.agg [.i .i64 a]) 0]):=by
 refine eW call351 func351 ?_;exact z0
theorem MP (sd:Bytes) (at' a:Nat): ∀(k b:Nat),∀y∈Ko sd at' a b k,y.length=1:=by
 intro k
 induction k with
 |zero=>intro b y hy;cases hy
 |succ k ih=>
  intro b y hy
  cases hy with
  |head=>rfl
  |tail _ h=>exact ih _ _ h
def qf (size:Nat):Nat:=max 1 ((size+31)/32)
def uj (sd:Bytes) (at' a:Nat):Nat->Bytes
 |0=>[]
 |k+1=>uj sd at' a k++Dg sd at' a k
def JA:Bytes->Nat->Bytes
 |[],_=>[]
 |x::r,d=>UInt8.ofNat (x.toNat%2^(8-d))::r
theorem Ta: ∀(d:Fin 8) (x:Fin 256),nE .u8 (x.val:Int) (Int.fdiv 255 (2^d.val))=((UInt8.ofNat (x.val%2^(8-d.val))).toNat:Int):=by decide+kernel
theorem n9 (c:UInt8) (r:Bytes):aM (c::r)= .v (.i .u8 (c.toNat:Int))::aM r:=rfl
def jY:Bytes->Bytes
 |[]=>[]
 |x::r=>if x=0 then jY r else x::r
def Hm (sd:Bytes) (at' a len:Nat):Bytes:=jY (JA ((uj sd at' a (qf ((len+7)/8))).take ((len+7)/8)) (8*((len+7)/8)-len))
theorem Cz (h:1<=S) (x:UInt8) (r:Bytes) (d:Nat):JA (List.take S (x::r)) d=List.take S (UInt8.ofNat (x.toNat%2^(8-d))::r):=by
 obtain⟨S,rfl⟩: ∃m,S=m+1:=⟨S-1,oO⟩;rfl
theorem Nu {q:Bytes} (h:i<S) (hS:S<=q.length):(q.take S).drop i=q.getD i 0::(q.take S).drop (i+1):=by
 rw[kJ (by rw[bQ];omega),List.getElem_take,bu,bC oO];rfl
theorem Jb (q:Bytes) (S i:Nat):List.take (S-i) (List.drop i (aM q))=aM ((q.take S).drop i):=by
 rw[aM,aM,vL,yS,vE]
theorem zH (l:Bytes): ∀y∈aM l,y.isByte:=by
 intro y hy;obtain⟨c,_,rfl⟩:=cx.1 hy;exact oT
theorem Hn {sd:Bytes} {at' a:Nat} (hv:vs.length<1000000) (hsd:sd.length<1000000) (ha:at'<4294967296) (ha2:a<4294967296) (hl0:0<len) (hl:len<100000):aH 298 [T vs sd at', .i .i64 a, .i .i64 len] (.s (Hm sd at' a len)):=by
 have hb:=zT vs sd at' a;have hit:=Kq (vs:= .sl (vs.map .s)) (sd:=sd) (at':=at') (a:=a) (k:=qf ((len+7)/8)) hsd (by unfold qf;omega) ha ha2
 have hsz: ∀ _:True,IntKind.i64.wrap (((len:Int)+7).tdiv 8)=(((len+7)/8:Nat):Int):=by
  intro _;rw[Int.tdiv_eq_ediv_of_nonneg oO,IntWalk.i64_in _ oO];omega
 have hs1:1<=(len+7)/8/\(len+7)/8<=13000:=oO;have hlen: ∀b,(Dg sd at' a b).length=32:=fun b=>by unfold Dg OM;rw[jH]
 have hcat: ∀k,(uj sd at' a k).length=32*k:=by
  intro k
  induction k with
  |zero=>rfl
  |succ k ih=>rw[uj,bR,ih,hlen];omega
 have hR: ∀k,k<qf ((len+7)/8)-> ¬(len+7)/8<=32*k\/k=0:=by intro k h;unfold qf at h;omega
 refine eW call298 func298 ?_;refine gR (hsz oT) @hb ?_;unfold Hm;generalize hS:(len+7)/8=S at*;refine Mb hit rfl ?_ ?_
 ·intro y hy;exact MP _ _ _ _ _ y hy
 refine TZ (α:=Nat) (fun k=>match k with|0=>⟨[(7, .p 1005 0 0),(8, .p 1007 0 0),(2, .v (.i .i64 len))],[(1005,⟨0,[.v (.i .i64 S)],false,some 3⟩),(1007,⟨0,[.sn],false,some 125⟩)],1011⟩|k+1=>⟨[(7, .p 1005 0 0),(8, .p 1007 0 0),(2, .v (.i .i64 len))],[(1005,⟨0,[.v (.i .i64 S)],false,some 3⟩),(1007,⟨0,[.rs 1014 k 0 (32*(k+1)) 1],false,some 125⟩),(1014,⟨k,aM (uj sd at' a (k+1)),true,some 5⟩)],1020⟩) (fun xs k=>k<qf S/\xs=Ko sd at' a k (qf S-k)) 0 ?_ ⟨by unfold qf;omega,rfl⟩ ?_ ?_ ?_
 ·intro k;cases k
  ·exact aA _
  ·show 1011<=1020;decide
 ·refine AS.Le.of oC ?_ ?_<;>simp[cU,cT,aO,az,AV.bd,AV.bd.bdL]
 ·rintro k ⟨h1,h2⟩;obtain⟨m,hm⟩: ∃m,qf S-k=m+1:=⟨qf S-k-1,oO⟩;rw[hm]at h2;cases h2
 ·rintro y ys k ⟨h1,h2⟩ R hRR;obtain⟨m,hm⟩: ∃m,qf S-k=m+1:=⟨qf S-k-1,oO⟩;rw[hm]at h2;injection h2 with e1 e2
  subst e1 e2;have hkb:k<1000:=by unfold qf at h1;omega
  have hx:=hlen k;have hc:=hcat k;have ho:=hcat (k+1);have hc1:uj sd at' a k++Dg sd at' a k=uj sd at' a (k+1):=rfl;have hgo:k+1<qf S-> _:=fun h=>hRR (k+1) ⟨h,by rw[show qf S-(k+1)=m from by omega]⟩
  clear hRR hit hb hcat hlen
  by_cases hf:S<=32*(k+1)
  ·have hk:qf S=k+1:=by unfold qf at h1⊢;omega
   rw[hk];clear hgo hR;have hd1: ∀ _:True,(8*(S:Int)-len).toNat=8*S-len:=fun _=>oO
   have hd2:8*S-len<8:=oO;have hd3:(if 8*S-len<=8 then 8*S-len else 8)=8*S-len:=by rw[af];omega
   have hmask:=fun x:UInt8=>Ta ⟨8*S-len,hd2⟩ ⟨x.toNat,x.toNat_lt⟩
   simp only at hmask;generalize hd:8*S-len=d at*;generalize hcc:uj sd at' a (k+1)=o at*;obtain⟨x0,r,rfl⟩: ∃x0 r,o=x0::r:=by
    cases o with
    |nil=>simp at ho
    |cons x0 r=>exact⟨_,_,rfl⟩
   cases k with
   |zero=>
    generalize Dg sd at' a 0=x at*;generalize uj sd at' a 0=c at*;obtain rfl:c=[]:=lL hc;obtain rfl:x=x0::r:=hc1;refine dw (aN @hx (aN @n9 (aN (hd1 oT) (aN @hd3 @hmask)))) ?_;rw[Cz hs1.1];simp only[<-n9];generalize hq:UInt8.ofNat (x0.toNat%2^(8-d))::r=q at*;have hql:q.length=32*(0+1):=by rw[<-hq];simpa using ho
    refine ah (α:=Nat) (fun i=>S-i) (fun i=>⟨[(8, .p 1007 0 0)],[(1007,⟨0,[.rs 1014 0 i (S-i) 1],false,some 125⟩),(1014,⟨0,aM q,true,some 5⟩)],1037⟩) (fun i=>i<=S/\jY ((q.take S).drop i)=jY (q.take S)) 0 (fun _=>aA _) ⟨aD _,rfl⟩ ?_ ?_
    ·refine AS.Le.of oC ?_ ?_<;>simp[cU,cT,aO,az,AV.bd,AV.bd.bdL,ak]
    ·rintro i ⟨hi,hst⟩ R2 hR2;rw[<-hst]
     by_cases hlt:i<S
     ·have e1:=Nu (q:=q) hlt oO;have e2:=ka (l:=q) (i:=i) oO;have e3: ∀ _:True,((S-i:Nat):Int)=(S:Int)-i:=fun _=>oO
      have e4:=Jb q S i
      by_cases hz:q.getD i 0=0
      ·have hgo2:=hR2 (i+1) ⟨hlt,by rw[<-hst,e1,jY,af hz]⟩ oO
       clear hR2;refine dw (aN @e2 @hz) ?_;refine hgo2 _ ?_;refine AS.Le.of oO ?_ ?_<;>simp[cU,cT,aO,az,AV.bd,AV.bd.bdL,ak,Nat.sub_sub]
      ·rw[e1,jY,aa hz,<-e1];have hz2: ∀ _:True,(((q.getD i 0).toNat:Int)==0)=false:=fun _=>by
        rw[du];intro h;exact hz (kP.1 (by exact_mod_cast h))
       refine dw (aN @e2 (hz2 oT)) ?_;rw[e4];exact⟨⟨oO,zH _⟩,by rw[mn]⟩
     ·obtain rfl:i=S:=oO;refine ye ?_;rw[gD,List.take_zero,gG (by rw[bQ];omega)]
      exact⟨⟨oO,fun y hy=>by cases hy⟩,rfl⟩
   |succ k=>
    dsimp only;generalize Dg sd at' a (k+1)=x at*;generalize uj sd at' a (k+1)=c at*;have htk:List.take (32*(k+1)) (aM c)=aM c:=by rw[<-hc];exact kf _
    refine dw (aN @hx (aN @hc1 (aN @htk (aN @n9 (aN (hd1 oT) (aN @hd3 @hmask)))))) ?_;rw[Cz hs1.1];simp only[<-n9];generalize hq:UInt8.ofNat (x0.toNat%2^(8-d))::r=q at*;have hql:q.length=32*(k+1+1):=by rw[<-hq];simpa using ho
    refine ah (α:=Nat) (fun i=>S-i) (fun i=>⟨[(8, .p 1007 0 0)],[(1007,⟨0,[.rs 1014 (k+1) i (S-i) 1],false,some 125⟩),(1014,⟨(k+1),aM q,true,some 5⟩)],1046⟩) (fun i=>i<=S/\jY ((q.take S).drop i)=jY (q.take S)) 0 (fun _=>aA _) ⟨aD _,rfl⟩ ?_ ?_
    ·refine AS.Le.of oC ?_ ?_<;>simp[cU,cT,aO,az,AV.bd,AV.bd.bdL,ak]
    ·rintro i ⟨hi,hst⟩ R2 hR2;rw[<-hst]
     by_cases hlt:i<S
     ·have e1:=Nu (q:=q) hlt oO;have e2:=ka (l:=q) (i:=i) oO;have e3: ∀ _:True,((S-i:Nat):Int)=(S:Int)-i:=fun _=>oO
      have e4:=Jb q S i
      by_cases hz:q.getD i 0=0
      ·have hgo2:=hR2 (i+1) ⟨hlt,by rw[<-hst,e1,jY,af hz]⟩ oO
       clear hR2;refine dw (aN @e2 @hz) ?_;refine hgo2 _ ?_;refine AS.Le.of oO ?_ ?_<;>simp[cU,cT,aO,az,AV.bd,AV.bd.bdL,ak,Nat.sub_sub]
      ·rw[e1,jY,aa hz,<-e1];have hz2: ∀ _:True,(((q.getD i 0).toNat:Int)==0)=false:=fun _=>by
        rw[du];intro h;exact hz (kP.1 (by exact_mod_cast h))
       refine dw (aN @e2 (hz2 oT)) ?_;rw[e4];exact⟨⟨oO,zH _⟩,by rw[mn]⟩
     ·obtain rfl:i=S:=oO;refine ye ?_;rw[gD,List.take_zero,gG (by rw[bQ];omega)]
      exact⟨⟨oO,fun y hy=>by cases hy⟩,rfl⟩
  ·have hgo:=hgo (by unfold qf;omega)
   cases k with
   |zero=>
    generalize Dg sd at' a 0=x at*;refine dw @hx ?_;refine hgo _ ?_;have hx1:uj sd at' a 1=x:=hc1.symm;refine AS.Le.of oC ?_ ?_<;>simp[cU,cT,aO,az,AV.bd,AV.bd.bdL,hx1,ak]
   |succ k=>
    have htk:List.take (32*(k+1)) (aM (uj sd at' a (k+1)))=aM (uj sd at' a (k+1)):=by rw[<-hc];exact kf _
    generalize Dg sd at' a (k+1)=x at*;repeat' first|simp only[go_sem,seval,hx,hc1]|refine oE ?_|apply xX<;>intro hc
    all_goals first
     |omega
     |skip
    refine hgo _ ?_;refine AS.Le.of oC ?_ ?_<;>simp[cU,cT,aO,az,AV.bd,AV.bd.bdL,htk,kW,hc1,ak];omega
theorem Bj: ∀l:Bytes,(jY l).length<=l.length
 |[]=>aA _
 |x::r=>by
  rw[jY];split
  ·have:=Bj r;rw[List.length_cons];omega
  ·exact aA _
theorem xI: ∀l:Bytes,((jY l).length==0||(jY l).headD 0 !=0)=true
 |[]=>rfl
 |x::r=>by
  rw[jY];split
  ·exact xI r
  ·rename_i h;simp[h]
theorem KZ (l:Bytes) (d:Nat):(JA l d).length=l.length:=by cases l<;>rfl
theorem zF (sd:Bytes) (at' a:Nat) (h:len<=1024):ae (Hm sd at' a len)=true:=by
 unfold ae;rw[bc];refine⟨aQ ?_,xI _⟩;have:=Bj (JA ((uj sd at' a (qf ((len+7)/8))).take ((len+7)/8)) (8*((len+7)/8)-len));rw[KZ,bQ]at this;unfold Hm;omega
def GI (f:Nat->Bytes) (n a:Nat):Nat->Option Bytes
 |0=>none
 |k+1=>if num (f a)<n then some (f a)else GI f n (a+1) k
def oi (vs:List Bytes) (sd:Bytes) (i:Nat) (n:Bytes):Except Int Bytes:=
 if i<vs.length then(if num n<=num (vs.getD i [])then .error 2 else .ok (vs.getD i []))
 else if sd=[]\/i=2147483647 then .error 14
 else match GI (fun a=>Hm sd i a (dG (num n))) (num n) 0 256 with
  |some x=> .ok x
  |none=> .error 14
def Ch (vs:List Bytes) (sd:Bytes) (i:Nat):Except Int Bytes->PV
 | .ok x=> .tup [.s x,T vs sd (i+1:Nat),E 0]
 | .error e=> .tup [.s [],T [] [] 0,E e]
theorem Fm {n:Bytes} (hn:ae n=true):dG (num n)<=1024:=by
 have h1:=cO n;have h2:n.length<=128:=by
  unfold ae at hn;rw[bc]at hn;exact of_decide_eq_true hn.1
 have h3:num n<2^1024:=bM h1 (by rw[show(2:Nat)^1024=256^128 by decide+kernel];exact dp oC h2)
 unfold dG;split
 ·omega
 ·rename_i h;have:=(yV h).2 h3;omega
theorem Nk (x y:Nat):decide (a7 x y<0)=decide (x<y):=by
 have e:=zR x y;rw[eq_iff_iff]at e;rw[fk];omega
theorem WQ (x y:Nat):decide (a7 x y>=0)= !decide (x<y):=by
 have e:=zR x y;rw[eq_iff_iff]at e
 by_cases h:x<y
 ·rw[aQ h,aS (fun g=>by have:=e.1 g;omega)];rfl
 ·rw[aS h,aQ (e.2 oO)];rfl
theorem Fv {sd:Bytes} {n:Bytes} (hv:vs.all ae=true) (hn:ae n=true) (h0:num n≠0) (hi:i<=2147483647) (hl:vs.length<1000000) (hsd:sd.length<1000000):aH 216 [T vs sd i, .s n] (Ch vs sd i (oi vs sd i n)):=by
 by_cases hiv:i<vs.length
 ·have h:=Sp sd hv hn hiv hl;unfold Nt at h;unfold oi;rw[af hiv];split
  ·rename_i hle;rw[af hle]at h;exact h
  ·rename_i hle;rw[aa hle]at h;exact h
 unfold oi;rw[aa hiv]
 by_cases hs:sd=[]\/i=2147483647
 ·rw[af hs];have hnl: ∀ _:True,(([]:Bytes)==[])=true:=fun _=>rfl
  have h47: ∀ _:True,((2147483647:Int)==2147483647)=true:=fun _=>rfl
  rcases hs with rfl|rfl
  ·refine eW call216 func216 ?_;exact fz (hnl oT)
  ·cases hsb:sd==[]with
   |true=>
    refine eW call216 func216 ?_;exact fz @hsb
   |false=>
    refine eW call216 func216 ?_;exact fz (aN @hsb (h47 oT))
 rw[aa hs];have hs1:sd≠[]:=fun h=>hs (.inl h)
 have hs2:i≠2147483647:=fun h=>hs (.inr h)
 have hbl:=Fm hn;have hb0:0<dG (num n):=by unfold dG;rw[aa h0];omega
 have hB:=yf hn;have hA:=fun a (ha:a<256)=>Hn (vs:=vs) (sd:=sd) (at':=i) (a:=a) (len:=dG (num n)) hl hsd oO oO hb0 oO
 have hC:=fun a=>nk (Hm sd i a (dG (num n))) n
 have hV:=fun a=>zF sd i a hbl
 obtain⟨r1,r2,r3,r4⟩:=T2 vs;have hsb:(sd==[])=false:=by rw[du];exact hs1
 have hi47: ∀ _:True,((i:Int)==2147483647)=false:=fun _=>by rw[du];omega
 generalize hf:(fun a=>Hm sd i a (dG (num n)))=f
 have hA: ∀a:Nat,a<256->aH 298 [T vs sd i, .i .i64 a, .i .i64 (dG (num n))] (.s (f a)):=by rw[<-hf];exact hA
 have hC: ∀a,aH 72 [.s (f a), .s n] (E (a7 (num (f a)) (num n))):=by
  intro a;have h:=hC a;rw[hV,hn]at h;rw[<-hf];exact h
 refine eW call216 func216 ?_;refine dw (aN @hsb (hi47 oT)) ?_;refine⟨⟨fun x hx=>Dh hx,fun y hy=>Pa hy,by rw[nC];exact aA _⟩,?_⟩
 refine ah (α:=Nat) (fun a=>256-a) (fun a=>⟨[(73, .v (.i .i64 a)),(1, .v (.s n)),(2, .p 1000 0 0),(5, .p 1002 0 0),(7, .p 1047 0 0)],[(1000,⟨0,[.v (.sl (vs.map .s)), .v (.s sd), .v (.i .i64 i)],false,none⟩),(1002,⟨0,[.sn, .v (.s []), .v (.i .i64 0)],false,some 82⟩),(1040,⟨0,List.map AV.v (vs.map .s),false,none⟩),(1047,⟨0,[.rs 1040 0 0 vs.length 1, .v (.s sd), .v (.i .i64 ((i:Int)+1))],false,some 82⟩)],1061⟩) (fun a=>a<=256/\GI f (num n) a (256-a)=GI f (num n) 0 256) 0 (fun _=>aA _) ⟨aD _,rfl⟩ ?_ ?_
 ·refine AS.Le.of oC ?_ ?_<;>simp[cU,cT,aO,az,AV.bd,AV.bd.bdL,Aa,r1,r3];rw[cQ (by simp)]
 ·rintro a ⟨ha,hst⟩ R hR;rw[<-hst]
  by_cases hlt:a<256
  ·obtain⟨m,hm⟩: ∃m,256-a=m+1:=⟨255-a,oO⟩;have hAa:=hA a hlt;have hCa:=hC a;have hgo:=hR (a+1);rw[hm,GI]
   by_cases hle:num (f a)<num n
   ·rw[af hle];have hcm: ∀ _:True,decide (a7 (num (f a)) (num n)<0)=true:=fun _=>by rw[Nk];exact aQ hle
    generalize a7 (num (f a)) (num n)=cm at*;repeat' first|simp only[go_sem,seval,hcm oT,r1,r2,r3,r4,Aa,iW]|refine cP hB ?_|refine cP hAa ?_|refine cP hCa ?_|refine oE ?_|apply xX<;>intro hc
    rfl
   ·rw[aa hle];have hgo:=hgo ⟨hlt,by rw[<-hst,hm,GI,aa hle,show 256-(a+1)=m from by omega]⟩ oO
    have hcm: ∀ _:True,decide (a7 (num (f a)) (num n)<0)=false:=fun _=>by rw[Nk];exact aS hle
    generalize a7 (num (f a)) (num n)=cm at*;refine nX (hcm oT) @hB @hAa @hCa oT ?_;refine hgo _ ?_;refine AS.Le.of oC ?_ ?_<;>simp[cU,cT,aO,az,AV.bd,AV.bd.bdL]
  ·obtain rfl:a=256:=oO;exact z0
theorem PK {n:Bytes} (hv:vs.all ae=true) (hn:ae n=true) (h0:n≠[]) (hi:i<=2147483647):wX vs i n=0:=by
 have h1:(vs.any fun x=> !ae x)=false:=by
  rw[dR];intro g;obtain⟨x,hx,h⟩:=m9.1 g;simp[bz.1 hv x hx]at h
 have h2:kj vs i=true:=by
  unfold kj;rw[h1,aQ (show(i:Int)>=0 by omega),aQ (show(i:Int)<=2147483647 by omega)];rfl
 simp[wX,h2,hn,h0]
theorem HW {n:Bytes} (hn:ae n=true) (h0:n≠[]):num n≠0:=fun h=>h0 ((uL hn).1 h)
theorem BV {sd:Bytes} {n:Bytes} (hv:vs.all ae=true) (hn:ae n=true) (h0:n≠[]) (hi:i<=2147483647) (hl:vs.length<1000000) (hsd:sd.length<1000000):aH 223 [T vs sd i, .s n] (Ch vs sd i (oi vs sd i n)):=by
 have h1:=Bc vs sd i n oO;rw[PK hv hn h0 hi]at h1;have h2:=Fv (sd:=sd) hv hn (HW hn h0) hi hl hsd;generalize oi vs sd i n=r at*
 cases r with
 |ok x=>
  unfold Ch at*;refine eW call223 func223 ?_;exact z2 @h1 @h2
 |error e=>
  unfold Ch at*;refine eW call223 func223 ?_;exact z2 @h1 @h2
theorem Mv {α:Type} (l:List α) (p:α->Bool):(l.any fun x=> !p x)= !l.all p:=by
 induction l with
 |nil=>rfl
 |cons x l ih=>rw[List.any_cons,List.all_cons,ih];cases p x<;>simp
theorem NX {a:Int} (h:kj vs a=true):vs.all ae=true/\0<=a/\a<=2147483647:=by
 unfold kj at h;rw[Mv,y5]at h;simp only[bc,a8]at h;exact⟨h.2,h.1.1,h.1.2⟩
theorem NW (h:vs.all ae=true) (hi:i<=2147483647):kj vs i=true:=by
 unfold kj;rw[Mv,h,aQ (show(i:Int)>=0 by omega),aQ (show(i:Int)<=2147483647 by omega)];rfl
