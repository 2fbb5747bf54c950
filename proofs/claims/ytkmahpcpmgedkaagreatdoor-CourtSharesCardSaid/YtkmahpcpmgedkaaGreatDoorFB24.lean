/- Part of the proof. -/
import Derived.Test.YtkmahpcpmgedkaaGreatDoorFB23
set_option linter.all false
set_option maxHeartbeats 16000000
set_option maxRecDepth 100000
namespace Go.Proofs.Tryz
open Go Go.Dom Go.Num
def VZ (m:Bytes):Int:=if !aa m then 3 else if iW m []then 0 else 13
theorem Hd (m:Bytes):aD 119 [G m []] (E (VZ m)):=by
 have hv:=aS m;have hv0:=aS [];rw[show aa []=true from rfl]at hv0
 by_cases h:aa m=true
 ·have hb:=yH h 0 oC;have hcm:=mN m [8];rw[h]at hv;rw[h,show aa [8]=true from rfl,show num [8]=8 from rfl]at hcm
  have he:ba (num m) 8<=0↔ ¬8<num m:=by unfold ba;split<;>(try split)<;>omega
  have e:VZ m=if(num m).testBit 0&&decide (8<num m)then 0 else 13:=by simp[VZ,iW,h]
  rw[e];clear e;generalize (num m).testBit 0=tb at*;refine eW call119 func119 ?_;exact Py @nn @hv @hv0 @hb @Of8 @hcm oT oT
 ·have h:aa m=false:=by simpa using h
  rw[h]at hv;have e:VZ m=3:=by simp[VZ,h]
  rw[e];refine eW call119 func119 ?_;exact z1 @hv
theorem Od {m:Bytes} (lm:m.length<=8) (x:Bytes):aD 130 [G m [], .s x] (.b (Ao m [] x)):=by
 have h:=Sb lm [] x;refine eW call130 func130 ?_;exact mi @nn @h
end Go.Proofs.Tryz
namespace Go.Proofs.Tryz
open Go Go.Dom Go.Num
structure Wz where
 (c sl mm mo mg mh wm wo wg wh se at' ha el es bl ma:Bytes)
def Wz.pv (p:Wz):PV:= .agg [.s p.c, .s p.sl, .s p.mm, .s p.mo, .s p.mg, .s p.mh, .s p.wm, .s p.wo, .s p.wg, .s p.wh, .s p.se, .s p.at', .s p.ha, .s p.el, .s p.es, .s p.bl, .s p.ma]
def Wz.Vj (p:Wz):List Bytes:=[p.c,p.sl,p.se,p.at',p.ha,p.el,p.es,p.bl,p.ma,p.mm,p.mo,p.mg,p.mh,p.wm,p.wo,p.wg,p.wh]
theorem Mw {x:Bytes} (h:aa x=true):aD 30 [.s x, .s [2]] (E (ba (num x) 2)):=by
 have:=mN x [2]
 rwa[h,show aa [2]=true from rfl,show num [2]=2 from rfl]at this
theorem rG {x y:Bytes} (h:aa x=true) (g:aa y=true):aD 30 [.s x, .s y] (E (ba (num x) (num y))):=by
 have:=mN x y
 rwa[h,g]at this
end Go.Proofs.Tryz
namespace Go.Proofs.Tryz
open Go Go.Dom Go.RowKit Go.Shelf
structure Key where
 (name m o z s:Bytes)
 r:List Bytes
 (u h:Bytes)
def Key.pv (k:Key):PV:= .agg [.s k.name, .s k.m, .s k.o, .s k.z, .s k.s, .sl (k.r.map .s), .s k.u, .s k.h]
end Go.Proofs.Tryz
namespace Go.Proofs.Tryz
open Go Go.Dom Go.Num
variable {a b i n:Nat} {x x1 y:Int}
def vn (i:Nat) (c:Int):Bool:= !((decide (c>=97)&&decide (c<=122))||(decide (c>=65)&&decide (c<=90)))&&(((i:Int)==0)||((c !=95)&&(decide (c<48)||decide (c>57))))
def JP (n:Bytes) (i:Nat):Int:=((n.getD i 0).toNat:Int)
def mn (n:Bytes):Bool:=(List.range n.length).all (fun i=> !vn i (JP n i))&& !(n==[])&&decide (n.length<=32)

theorem dM {l:List Bytes} {x:Nat} (h:x<l.length):(l.map PV.s).getD x .fn0= .s (l.getD x []):=by
 simp[bu,h]
theorem my {l:List Bytes} {y:PV} (h:y∈l.map PV.s):y.cells.length=1:=by
 obtain⟨c,_,rfl⟩:=bG.1 h;rfl
def eN {α:Type} (p:α->Bool):Nat->List α->Int
 | _,[]=> -1
 |k,x::r=>if p x then(k:Int)else eN p (k+1) r
theorem iX {α:Type} {p:α->Bool}: ∀{l:List α} {k:Nat},0<=eN p k l↔l.any p=true
 |[],k=>by simp[eN]
 |x::r,k=>by
  simp only[eN,List.any_cons];split
  ·rename_i h;simp[h]
  ·rename_i h;simp only[Bool.not_eq_true]at h;rw[iX,h,j4]
theorem drop_cons {l:List Bytes} (h:i<l.length):l.drop i=l.getD i []::l.drop (i+1):=by
 rw[jf h,bu,bC h];rfl
theorem AZ (l:List Bytes) (f:FuncId) (p:Bytes->Bool) (hl:l.length<4611686018427387904) (h: ∀x,aD f [.s x] (.b (p x))):aD 389 [.sl (l.map .s), .fn (.func f)] (E (eN p 0 l)):=by
 refine eW call389 func389 ?_;refine pU ?_;refine af (α:=Nat) (fun i=>l.length-i) (fun i=>⟨[(0, .v (.sl (l.map .s))),(1, .v (.fn (.func f))),(7, .v (.i .i64 l.length)),(8, .v (.i .i64 (i:Nat)))],[],_⟩) (fun i=>i<=l.length/\eN p i (l.drop i)=eN p 0 l) 0 (fun _=>ay _) ⟨aJ _,rfl⟩ ?_ ?_
 ·exact lE
 ·rintro i ⟨hi,hx⟩ R hR;rw[<-hx]
  by_cases hlt:i<l.length
  ·have e1:=dM hlt;have hf:=h (l.getD i []);have hgo:=hR (i+1);rw[<-hx,drop_cons hlt]at hgo;rw[drop_cons hlt];simp only[eN]at hgo⊢;clear hx hR h;generalize p (l.getD i [])=b at*;repeat' first|simp only[go_sem,seval,e1]|refine cP hf ?_|refine oE ?_|apply xX<;>intro hc
   all_goals first
    |(refine hgo ⟨oO,by simp_all⟩ oO _ ?_;(refine AS.Le.of (by first|decide|omega) ?_ ?_<;>simp[dy,dx,aO,az,AV.bd,AV.bd.bdL,u8,ar,ax,aA]);done)
    |(simp_all;done)
    |skip
  ·obtain rfl:i=l.length:=oO;rw[cO];repeat' first|simp only[go_sem,seval]|refine oE ?_|apply xX<;>intro hc
   all_goals simp[eN]
theorem uZ (l:List Bytes) (f:FuncId) (p:Bytes->Bool) (hl:l.length<4611686018427387904) (h: ∀x,aD f [.s x] (.b (p x))):aD 281 [.sl (l.map .s), .fn (.func f)] (.b (l.any p)):=by
 have hi:=AZ l f p hl h;have e:decide (eN p 0 l>=0)=l.any p:=by
  rw[dK,decide_eq_true_iff];exact iX
 refine eW call281 func281 ?_;exact mi @e @hi
abbrev T (vs:List Bytes) (sd:Bytes) (at':Int):PV:= .agg [.sl (vs.map .s), .s sd, .i .i64 at']
theorem Na (x:Bytes):aD 364 [.s x] (.b (!aa x)):=by
 have hv:=aS x;refine eW call364 func364 ?_;exact z1 @hv
def e9 (vs:List Bytes) (at':Int):Bool:=decide (at'>=0)&&decide (at'<=2147483647)&& !(vs.any fun x=> !aa x)
theorem CL (vs:List Bytes) (sd:Bytes) (at':Int) (hl:vs.length<4611686018427387904):aD 242 [T vs sd at'] (.b (e9 vs at')):=by
 have hcf:=uZ vs _ (fun x=> !aa x) hl Na
 unfold e9;generalize (vs.any fun x=> !aa x)=b at*
 refine eW call242 func242 ?_;repeat' first|simp only[go_sem,seval]|refine cP hcf ?_|refine oE ?_|apply xX<;>intro hc
 all_goals simp_all
 all_goals (intros;omega)
def wk (vs:List Bytes) (at':Int) (n:Bytes):Int:=if !(e9 vs at'&&aa n)then 3 else if n=[]then 11 else 0
theorem tW (vs:List Bytes) (sd:Bytes) (at':Int) (n:Bytes) (hl:vs.length<4611686018427387904):aD 131 [T vs sd at', .s n] (E (wk vs at' n)):=by
 have hg:=CL vs sd at' hl;have hv:=aS n;unfold wk;generalize e9 vs at'=b at*;generalize aa n=b2 at*;refine eW call131 func131 ?_;exact Wu @hg @hv
def MF (vs:List Bytes) (sd:Bytes) (i:Nat) (n:Bytes):PV:=
 if num n<=num (vs.getD i [])then .tup [.s [],T [] [] 0,E 2]else .tup [.s (vs.getD i []),T vs sd (i+1:Nat),E 0]
theorem qg (l:List Bytes):(l.map PV.s).flatMap PV.cells=l.map PV.s:=by
 induction l with
 |nil=>rfl
 |cons x r ih=>simp_all[PV.cells]
theorem vT {l:List Bytes} {y:AV} (h:y∈List.map AV.v (List.flatMap PV.cells (l.map PV.s))):y.one=true:=by
 rw[qg,iB]at h;obtain⟨c,_,rfl⟩:=bG.1 h;rfl
theorem mS (n:Nat) (x:AV):(List.replicate n [x]).flatten.length=n:=by
 induction n with
 |zero=>rfl
 |succ n ih=>rw[List.replicate_succ,List.flatten_cons,bJ,ih,List.length_singleton];omega
theorem OA (vs:List Bytes):List.drop vs.length (List.replicate vs.length [AV.v (PV.s [])]).flatten=[]/\(List.map AV.v (List.map PV.s vs)).all AV.one=true/\List.take vs.length (List.map AV.v (List.map PV.s vs))=List.map AV.v (List.map PV.s vs)/\chunk 1 vs.length (List.map PV.s vs)=List.map PV.s vs:=by
 refine⟨?_,?_,?_,?_⟩
 ·rw[gU (by rw[mS];exact ay _)]
 ·simp[bM,AV.one,PV.one]
 ·rw[cb (by simp)]
 ·have:=nZ (List.map PV.s vs);rwa[aB]at this
theorem zt {vs:List Bytes} (hi:i<vs.length):vs.getD i []∈vs:=by
 rw[bu,bC hi];exact j9 hi
theorem QX {vs:List Bytes} (sd:Bytes) {n:Bytes} (hv:vs.all aa=true) (hn:aa n=true) (hi:i<vs.length) (hl:vs.length<1000000):aD 132 [T vs sd i, .s n] (MF vs sd i n):=by
 have hx:aa (vs.getD i [])=true:=bM.1 hv _ (zt hi);have hcm:=mN (vs.getD i []) n;rw[hx,hn]at hcm;simp only[dE,au]at hcm;have e1:=dM hi;have e2:(ba (num (vs.getD i [])) (num n)>=0)=(num n<=num (vs.getD i [])):=y5 _ _;unfold MF;generalize ba (num (vs.getD i [])) (num n)=cm at*
 by_cases hle:num n<=num (vs.getD i [])
 ·rw[ah hle];have e3:cm>=0:=by rw[e2];exact hle
  refine eW call132 func132 ?_;repeat' first|simp only[go_sem,seval,e1]|refine cP hcm ?_|refine oE ?_|apply xX<;>intro hc
  rfl
 ·rw[ae hle];have e3: ¬cm>=0:=by rw[e2];exact hle
  refine eW call132 func132 ?_;refine kz @e1 @hcm ?_;refine⟨⟨fun x hx=>my hx,fun y hy=>vT hy,by rw[mS];exact ay _⟩,?_⟩
  obtain⟨r1,r2,r3,r4⟩:=OA vs;refine dH (aN @e1 (aN @mS (aN @qg (aN @r1 (aN @r2 (aN @r3 (aN @r4 @eQ))))))) ?_;simp

def Wz.Tm (p:Wz):List Bytes:=[p.c,p.sl,p.mm,p.mo,p.mg,p.mh,p.wm,p.wo,p.wg,p.wh,p.se,p.at',p.ha,p.el,p.es,p.bl,p.ma]
theorem RA (h:a*b<cW) (ha:a<cW) (hb:b<cW):aD 378 [N a,N b] (.tup [N (a*b),E 0]):=by
 have:=T5 (aX a) (aX b);simp only[xl,vB ha,vB hb,dE,au,aP,h]at this;exact this
theorem Qh (h:a+b<cW):aD 123 [N a,N b] (.tup [N (a+b),E 0]):=by
 have:=TL (aX a) (aX b);simp only[Bf,vB (show a<cW by omega),vB (show b<cW by omega),dE,au,aP,h]at this
 exact this
theorem xy (h:b<=a) (ha:a<cW):aD 121 [N a,N b] (.tup [N (a-b),E 0]):=by
 have:=LQ (aX a) (aX b);simp only[wD,vB ha,vB (show b<cW by omega),dE,au,aP,h]at this
 exact this
theorem sZ (ha:a<cW) (hb:b<cW):aD 30 [N a,N b] (E (ba a b)):=by
 have:=mN (aX a) (aX b);simp only[vB ha,vB hb,dE,au,aP]at this;exact this
theorem DG (h:x.natAbs<cW):aD 138 [Z x] (.b true):=by
 have:=hO (zs x) (zb x)
 rwa[Wv h]at this
theorem Mj (hx:x.natAbs<cW) (hy:y.natAbs<cW):aD 388 [Z x,Z y] (.b true):=by
 have v1:=DG hx;have v2:=DG hy;refine eW call388 func388 ?_;repeat' first|simp only[go_sem,seval,Z]|refine cP v1 ?_|refine cP v2 ?_|refine oE ?_|apply xX<;>intro hc
theorem zN (b:Bool) (n:Nat) {z:Int} (h:(if b then-(n:Int)else n)=z):aD 67 [.b b,N n] (Z z):=by
 have:=xK b (aX n);rw[zmk,h]at this;exact this
theorem BB (h:n<cW):aD 28 [N n] (Z n):=oU (vB h)
theorem T7:aD 51 [E 1] (Z 1):=by
 have h1:=lJ 1 oC;have hm:=zN false 1 rfl;refine eW call51 func51 ?_;repeat' first|simp only[go_sem,seval,Z]|refine cP h1 ?_|refine cP hm ?_|refine oE ?_|apply xX<;>intro hc
theorem Zw:aD 51 [E 0] (Z 0):=by
 have h1:=lJ 0 oC;have hm:=zN false 0 rfl;refine eW call51 func51 ?_;repeat' first|simp only[go_sem,seval,Z]|refine cP h1 ?_|refine cP hm ?_|refine oE ?_|apply xX<;>intro hc
theorem Zv (h:y.natAbs<cW):aD 422 [Z y] (Z (-y)):=by
 have hv:=DG h;have hm:=zN (!zs y) y.natAbs (Y4 y);refine eW call422 func422 ?_;repeat' first|simp only[go_sem,seval,Z]|refine cP hv ?_|refine cP hm ?_|refine oE ?_|apply xX<;>intro hc
theorem Ni (hx:x.natAbs<cW) (hy:y.natAbs<cW) (h:x.natAbs*y.natAbs<cW):aD 278 [Z x,Z y] (.tup [Z (x*y),E 0]):=by
 have hb:=Mj hx hy;have hm:=RA h hx hy;have hk:=zN (zs x !=zs y) (x.natAbs*y.natAbs) (Y3 x y);refine eW call278 func278 ?_;repeat' first|simp only[go_sem,seval,Z]|refine cP hb ?_|refine cP hm ?_|refine cP hk ?_|refine oE ?_|apply xX<;>intro hc
theorem Nj (hx:x.natAbs<dL) (hy:y.natAbs<dL):aD 278 [Z x,Z y] (.tup [Z (x*y),E 0]):=
 have hw:=xz
 Ni oO oO (bH (gQ hx hy) Gd)
theorem EX (hlim:x.natAbs+y.natAbs<cW):aD 280 [Z x,Z y] (.tup [Z (x+y),E 0]):=by
 have hb0:=Mj (x:=x) (y:=y) oO oO
 by_cases hs:zs x=zs y
 ·have ha:=Qh hlim;have hk:=zN (zs x) (x.natAbs+y.natAbs) (Ps hs);have hb: ∀ _:True,(zs x==zs y)=true:=fun _=>by rw[hs];simp
  clear hs hlim;refine eW call280 func280 ?_;repeat' first|simp only[go_sem,seval,Z,hb oT]|refine cP hb0 ?_|refine cP ha ?_|refine cP hk ?_|refine oE ?_|apply xX<;>intro hc
 have hb: ∀ _:True,(zs x==zs y)=false:=fun _=>by simpa using hs
 have hcm:=sZ (a:=x.natAbs) (b:=y.natAbs) oO oO
 by_cases hl:y.natAbs<=x.natAbs
 ·have hd:=xy hl oO;have hk:=zN (zs x) (x.natAbs-y.natAbs) (Ju hs hl);have hg: ∀ _:True,decide (ba x.natAbs y.natAbs<0)=false:=fun _=>aH (fun h=>by rw[fP]at h;omega)
  generalize ba x.natAbs y.natAbs=cm at*;clear hs hlim;refine eW call280 func280 ?_;repeat' first|simp only[go_sem,seval,Z,hb oT,hg oT]|refine cP hb0 ?_|refine cP hcm ?_|refine cP hd ?_|refine cP hk ?_|refine oE ?_|apply xX<;>intro hc
 ·have hd:=xy (a:=y.natAbs) (b:=x.natAbs) oO oO;have hk:=zN (zs y) (y.natAbs-x.natAbs) (Pt hs oO);have hg: ∀ _:True,decide (ba x.natAbs y.natAbs<0)=true:=fun _=>aI (by rw[fP];omega)
  generalize ba x.natAbs y.natAbs=cm at*;clear hs hlim;refine eW call280 func280 ?_;repeat' first|simp only[go_sem,seval,Z,hb oT,hg oT]|refine cP hb0 ?_|refine cP hcm ?_|refine cP hd ?_|refine cP hk ?_|refine oE ?_|apply xX<;>intro hc
theorem Xt (hx:x.natAbs<dL) (hy:y.natAbs<dL):aD 280 [Z x,Z y] (.tup [Z (x+y),E 0]):=
 EX (bH (show _<dL*dL by unfold dL at*;omega) Gd)
theorem Ti (hlim:x.natAbs+y.natAbs<cW):aD 333 [Z x,Z y] (.tup [Z (x-y),E 0]):=by
 have hb:=Mj (x:=x) (y:=y) oO oO;have hn:=Zv (y:=y) oO;have ha:=EX (x:=x) (y:= -y) oO;rw[<-Int.sub_eq_add_neg]at ha;refine eW call333 func333 ?_;repeat' first|simp only[go_sem,seval,Z]|refine cP hb ?_|refine cP hn ?_|refine cP ha ?_|refine oE ?_|apply xX<;>intro hc
theorem Tj (hx:x.natAbs<dL) (hy:y.natAbs<dL):aD 333 [Z x,Z y] (.tup [Z (x-y),E 0]):=
 Ti (bH (show _<dL*dL by unfold dL at*;omega) Gd)
theorem uk:(2^64)<=dL:=by decide
theorem lr:(2^64)<=cW:=by unfold cW;decide+kernel
abbrev Z2 (x y:Int):PV:= .agg [.b (zs x), .s (zb x), .b (zs y), .s (zb y)]
theorem Iy {q:Nat} {x0:Int} (hq:q<(2^64)) (h0:x0.natAbs<(2^64)+1) (h1:x1.natAbs<(2^64)+1) (hp:(((q:Nat):Int)*x1).natAbs<dL):aD 332 [Z2 x0 x1, .pt (.agg [N q]) 0] (Z2 x1 (x0-(q:Nat)*x1)):=by
 have w1:=uk;have w2:=lr;have hf:=BB (n:=q) oO;have hm:=Nj (x:=(q:Int)) (y:=x1) (by rw[Int.natAbs_natCast];omega) (by unfold dL;omega)
 have hs:=Tj (x:=x0) (y:=(q:Int)*x1) (by unfold dL;omega) hp
 generalize (q:Int)*x1=v at*;generalize x0-v=u at*;refine eW call332 func332 ?_;repeat' first|simp only[go_sem,seval,Z,mj,mf]|refine cP hf ?_|refine cP hm ?_|refine cP hs ?_|refine oE ?_|apply xX<;>intro hc
theorem I4 {r0 r1 B:Nat} (h0:0<r1) (h:x1.natAbs*r0<=B):((((r0/r1:Nat):Int))*x1).natAbs<=B:=by
 rw[jg,Int.natAbs_natCast];have h1:r0/r1<=r0:=fg _ _;have:=je x1.natAbs h1;rw[bO]at this;omega
theorem Ep (ha:a<(2^64)) (hb:b<(2^64)) (h0:0<b): ∃X Y:Int,(Nat.gcd a b=1->X.natAbs<(2^64)/\X.natAbs%b=fR a b)/\aD 217 [N a,N b] (.tup [N (Nat.gcd a b),Z X,Z Y,E 0]):=by
 have w1:=uk;have w2:=lr;obtain⟨x',y',hE⟩:=EK (a:=a) (b:=b) (f:=b+1) oO (sN.start h0);obtain⟨res,hres⟩: ∃res,res=EJ (b+1) a b 1 0 0 1:=⟨_,rfl⟩;rw[<-hres]at hE;obtain⟨g,X0,Y0⟩:=res;simp only at hE;have hg:=hE.fin;have hgp:0<g:=by rw[hg];exact Nat.gcd_pos_of_pos_right _ h0
 have bx:=hE.bx0;have by':=hE.by0
 have hm1:b/g<=b:=fg _ _;have hk1:a/g<=a:=fg _ _;have v1:=aS (aX a);have v2:=aS (aX b);rw[vB (show a<cW by omega)]at v1
 rw[vB (show b<cW by omega)]at v2
 have e0:(aX b==([]:Bytes))=false:=tJ oO;have d1:=sM (a:=b) (b:=g) hb (by have:g<=b:=(by rw[hg];exact DX _ h0);omega) hgp
 have d2:=sM (a:=a) (b:=g) ha (by have:g<=b:=(by rw[hg];exact DX _ h0);omega) hgp
 have f1:=BB (n:=b/g) oO;have f2:=BB (n:=a/g) oO;have ad:=Xt (x:=X0) (y:=((b/g:Nat):Int)) (by unfold dL;omega) (by rw[Int.natAbs_natCast];unfold dL;omega)
 have sb:=Tj (x:=Y0) (y:=((a/g:Nat):Int)) (by unfold dL;omega) (by rw[Int.natAbs_natCast];unfold dL;omega)
 have o1:=T7;have o0:=Zw;refine⟨if X0<0 then X0+((b/g:Nat):Int)else X0,if X0<0 then Y0-((a/g:Nat):Int)else Y0,?_,?_⟩
 ·intro h1;have g1:g=1:=by rw[hg];exact h1
  subst g1;obtain⟨k1,k3,k2⟩:=hE.inv h0 _ rfl;rw[iR];exact⟨oO,k2⟩
 ·rw[<-hg];refine eW call217 func217 ?_;simp only[go_sem,seval,Z];repeat' first|simp only[go_sem,seval,e0,Z]|refine cP v1 ?_|refine cP v2 ?_|refine cP o1 ?_|refine cP o0 ?_|refine oE ?_|apply xX<;>intro hc
  refine af (α:=Nat×Nat×Nat×Int×Int×Int×Int) (fun s=>s.2.2.1) (fun s=>⟨[(0, .v (N a)),(1, .v (N b)),(5, .p 1001 0 0),(6, .p 1002 0 0),(8, .p 1017 0 0),(9, .p 1025 0 0),(10, .p 1026 0 0)],[(1001,⟨0,[.v (.b false), .v (.s [])],false,some 77⟩),(1002,⟨0,[.v (.b false), .v (.s [])],false,some 77⟩),(1017,⟨0,[.v (N s.2.1), .v (N s.2.2.1)],false,some 380⟩),(1025,⟨0,[.v (.b (zs s.2.2.2.1)), .v (.s (zb s.2.2.2.1)), .v (.b (zs s.2.2.2.2.1)), .v (.s (zb s.2.2.2.2.1))],false,some 381⟩),(1026,⟨0,[.v (.b (zs s.2.2.2.2.2.1)), .v (.s (zb s.2.2.2.2.2.1)), .v (.b (zs s.2.2.2.2.2.2)), .v (.s (zb s.2.2.2.2.2.2))],false,some 381⟩)],_⟩) (fun s=>s.2.2.1<s.1/\sN a b s.2.1 s.2.2.1 s.2.2.2.1 s.2.2.2.2.1 s.2.2.2.2.2.1 s.2.2.2.2.2.2/\s.2.1<(2^64)/\s.2.2.1<(2^64)/\EJ s.1 s.2.1 s.2.2.1 s.2.2.2.1 s.2.2.2.2.1 s.2.2.2.2.2.1 s.2.2.2.2.2.2=(g,X0,Y0)) (b+1,a,b,1,0,0,1) (fun _=>ay _) ⟨by show b<b+1;omega,sN.start h0,ha,hb,hres.symm⟩ ?_ ?_
  ·exact lE
  ·rintro⟨f,r0,r1,x0,x1,y0,y1⟩ ⟨hf,hS,hr0,hr1,heq⟩ R hR;simp only at hf hS hr0 hr1 heq
   cases f with
   |zero=>omega
   |succ f=>
    unfold EJ at heq
    by_cases hz:r1=0
    ·subst hz;rw[ah rfl]at heq;simp only[dU]at heq;obtain⟨rfl,rfl,rfl⟩:=heq
     by_cases hx:x0<0
     ·have hzs:zs x0=true:=by simp[zs,hx]
      simp only[Z,hzs,mj,mf]at ad f1 f2;simp only[Z,mj,mf]at sb;rw[ah hx,ah hx];clear hR hres hE hS;repeat' first|simp only[go_sem,seval,G1,Z,hzs,mj,mf]|refine cP d1 ?_|refine cP d2 ?_|refine cP f1 ?_|refine cP f2 ?_|refine cP ad ?_|refine cP sb ?_|refine oE ?_|apply xX<;>intro hc
     ·have hzs:zs x0=false:=by simp[zs,hx]
      rw[ae hx,ae hx];clear hR hres hE hS;repeat' first|simp only[go_sem,seval,G1,Z,hzs]|refine oE ?_|apply xX<;>intro hc
    ·rw[ae hz]at heq;have hpos:0<r1:=oO;have hst:=hS.step hpos;have hml:=aL r0 hpos;have hq:r0/r1<=r0:=fg _ _;have dv:=sM hr0 hr1 hpos;have b1:=hS.bx0;have b2:=hS.bx1;have b3:=hS.by0;have b4:=hS.by1;have b5:=hS.hx;have b6:=hS.hy;have c1:=Iy (q:=r0/r1) (x0:=x0) (x1:=x1) oO oO oO (by have:=I4 (r1:=r1) hpos (show x1.natAbs*r0<=b by omega);unfold dL;omega)
     have c2:=Iy (q:=r0/r1) (x0:=y0) (x1:=y1) oO oO oO (by have:=I4 (r1:=r1) hpos (show y1.natAbs*r0<=a by omega);unfold dL;omega)
     have en:=tJ hz;have hgo:=hR (f,r1,r0%r1,x1,x0-((r0/r1:Nat):Int)*x1,y1,y0-((r0/r1:Nat):Int)*y1) ⟨by show r0%r1<f;omega,hst,hr1,by show r0%r1< _;omega,heq⟩ hml
     clear hR heq hst hS b1 b2 b3 b4 b5 b6 hres hE;generalize x0-((r0/r1:Nat):Int)*x1=u at*;generalize y0-((r0/r1:Nat):Int)*y1=v at*;repeat' first|simp only[go_sem,seval,en,Z,Z2,aV]|refine cP dv ?_|refine cV c1 ?_|refine cV c2 ?_|refine oE ?_|apply xX<;>intro hc
     refine hgo _ ?_;exact lE
theorem rJ {a m:Nat} (ha:a<(2^64)) (hm:m<(2^64)) (h0:0<m) (hg:Nat.gcd a m=1):aD 104 [N a,N m] (.tup [N (fR a m),E 0]):=by
 have w1:=uk;have w2:=lr;have hc:=fun nm=>UM nm (aX a) (aX m)
 rw[Ta ha hm h0]at hc;have hl:=aL a h0;have hd:=l8 ha hm h0;have hg':Nat.gcd (a%m) m=1:=by rw[<-hg,<-mE,iK]
 obtain⟨X,Y,h1,h3⟩:=Ep (a:=a%m) (b:=m) oO hm h0;obtain⟨h4,h5⟩:=h1 hg';rw[hg']at h3;have hX:X.natAbs%m=fR a m:=by
  rw[h5];obtain⟨g1,g2⟩:=(gL h0 hg').inv;exact(jd g1 (by rw[jz]at g2;exact g2)).symm
 have hr:aD 218 [.s (zb X),N m] (N (fR a m)):=by
  have:=l8 h4 hm h0
  rwa[hX]at this
 clear h1 h4 h5 hX;refine eW call104 func104 ?_;repeat' first|simp only[go_sem,seval,Z,RK,fb,jl,dO]|(refine cd (hc _) (by simp) ?_)|refine cP hd ?_|refine cP h3 ?_|refine cP hr ?_|refine oE ?_|apply xX<;>intro hc
theorem mM (n1 n2 nm:Nat) (hne:n1≠n2) {a b m:Nat} (o:Bytes) (el el2:Option TypeId) (ha:a<(2^64)) (hb:b<(2^64)) (hm:m<(2^64)) (h0:0<m):mw prog 106 nm [(n1,⟨0,[.v (N a)],false,el⟩),(n2,⟨0,[.v (N m), .v (.s o)],false,el2⟩)] [.v (N b), .p n1 0 0, .p n2 0 0] (.tup []) [(n1,some ⟨0,[.v (N (a*b%m))],false,el⟩)]:=by
 have hx:=qk ha hb hm h0;refine mw.w mixed call106 func106 rfl (nf.1 _ _ _ (by cbv)) (nf.2 _ _ (by cbv)) (obs:=[⟨0,[.v (N a)],false,el⟩,⟨0,[.v (N m), .v (.s o)],false,el2⟩]) (args:=[.v (N b), .p 0 0 0, .p 1 0 0]) (fs:=[some (some ⟨0,[.v (N (a*b%m))],false,el⟩),none]) (j:=none) (nw:=none) (v:= .tup []) (ns:=[n1,n2]) (obsA:=[⟨0,[.v (N a)],false,el⟩,⟨0,[.v (N m), .v (.s o)],false,el2⟩]) rfl ?_ (by simp) (by simp[hne]) rfl (by simp[bz,aF.aY,AV.aY,AV.aY.renL]) (by simp[bz,AV.aY,dP,hne,nT hne]) (by simp[AV.aY,AV.aY.renL]) (by simp[gY,outs,aF.aY,AV.aY,AV.aY.renL])
 simp only[go_sem,seval];repeat' first|simp only[go_sem,seval,true_or,or_true,false_or,or_false,aj,kB,fK,jo,ic,ie,fM,rm,rZ,iG,jO,eV,aU,AV.aY,AV.aY.renL,aM]|refine cP hx ?_|refine oE ?_|apply xX<;>intro hc
 all_goals skip
theorem Ko {x:AV}:(List.replicate 1 [x]).flatten=[x]:=rfl
theorem BM {x:AV}:List.drop 1 [x]=[]:=rfl
theorem qB {x:AV}:List.take 1 [x]=[x]:=rfl
theorem Lf {x y:AV}:List.set [x] 0 y=[y]:=rfl
theorem S7:n/2^cE n=0:=by
 refine iD ?_;unfold cE;split
 ·rename_i h;rw[h];decide
 ·rename_i h;exact uQ
theorem nM (x:PV) (l:List PV):og (.v x::l.map .v)=some (x::l):=by
 have h: ∀l:List PV,og (l.map .v)=some l:=by
  intro l
  induction l with
  |nil=>rfl
  |cons y l ih=>
   unfold og at ih⊢;rw[br,bz,ih];rfl
 have:=h (x::l);exact this
end Go.Proofs.Tryz
namespace Go.Proofs.Tryz
open Go Go.Dom Go.Num
theorem ZJ {a b:Nat} (h:a<b):decide (ba a b>=0)=false:=aH (fun g=>by have:=kZ.1 g;omega)
theorem ZK {a b:Nat} (h:b<=a):decide (ba a b>=0)=true:=aI (kZ.2 h)
theorem dLt (a b:Nat):decide (ba a b<0)=decide (a<b):=by rw[dK];simp only[cq];exact fP
theorem KO (m o:Bytes):aD 351 [G m o] (.b (aa m&&aa o)):=by
 have v1:=aK m;have v2:=aK o;refine eW call351 func351 ?_;exact Wu @v1 @v2
theorem Ok {m:Bytes} (lm:m.length<=8) (o x:Bytes):aD 227 [G m o, .s x] (.b (nK m o x)):=by
 have hf:=KO m o;have vx:=aK x
 by_cases h:aa m=true/\aa o=true/\aa x=true/\o≠[]/\x≠[]
 ·obtain⟨v1,v2,v3,h4,h5⟩:=h;have e4:(o==([]:Bytes))=false:=by simpa using h4
  have e5:(x==([]:Bytes))=false:=by simpa using h5
  have hn:=eP lm;have lx:=cT v3;have hor:=ia (bL v3) (bL v1) oO oO;rw[v1,v2]at hf;rw[v3]at vx;have hx0:=qP (bL v3) h5
  by_cases h6:num x<num m
  ·have hE:=X5 (a:=num x) (m:=num m) (e:=o) oO v2 hn oO;rw[eE v3,eE v1]at hE;have hlt: ∀ _:True,decide (ba (num x) (num m)>=0)=false:=fun _=>ZJ oO
   have e:nK m o x=decide (num x^num o%num m=1):=by simp[nK,v1,v2,v3,e4,e5,h6,bY (show 1<num m by omega)]
   rw[e];generalize num x^num o%num m=z1 at*;refine eW call227 func227 ?_;exact yG (aN @e4 (aN @e5 (aN (hlt oT) @RK))) @hf @vx @hor @hE
  ·have hlt: ∀ _:True,decide (ba (num x) (num m)>=0)=true:=fun _=>ZK oO
   have e:nK m o x=false:=by simp[nK,h6]
   rw[e];refine eW call227 func227 ?_;exact yG (aN @e4 (aN @e5 (hlt oT))) @hf @vx @hor oT
 ·have e:nK m o x=false:=by
   rw[fy];intro g;simp[nK]at g;exact h ⟨g.1.1.1.1.1.1,g.1.1.1.1.1.2,g.1.1.1.1.2,g.1.1.1.2,g.1.1.2⟩
  rw[e]
  by_cases hmo:(aa m&&aa o)=true
  case neg=>
   have hmo:(aa m&&aa o)=false:=by simpa using hmo
   rw[hmo]at hf;refine eW call227 func227 ?_;exact z2 @hf @vx
  rw[hmo]at hf
  by_cases v3:aa x=true
  case neg=>
   have v3:aa x=false:=by simpa using v3
   rw[v3]at vx;refine eW call227 func227 ?_;exact z2 @hf @vx
  rw[v3]at vx
  by_cases h4:o=[]
  ·subst h4;refine eW call227 func227 ?_;exact AN @nn @hf @vx
  ·have e4:(o==([]:Bytes))=false:=by simpa using h4
   by_cases h5:x=[]
   ·subst h5;refine eW call227 func227 ?_;exact AN (aN @nn @e4) @hf @vx
   ·simp only[aZ]at hmo;exact aW ⟨hmo.1,hmo.2,v3,h4,h5⟩ h
theorem Ov:aD 55 [.i .u64 1] (.s [1]):=ig 1 oC
