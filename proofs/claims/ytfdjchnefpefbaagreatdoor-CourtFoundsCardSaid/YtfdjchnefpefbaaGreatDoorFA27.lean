/-
  Part of the proof, part FA27. Own work.
-/
import Derived.Test.YtfdjchnefpefbaaGreatDoorFA26
set_option linter.all false
namespace Go.Proofs.YtfdjchnefpefbaaGreatDoor
open Go Go.Dom Go.Num
set_option maxRecDepth 100000
set_option maxHeartbeats 4000000
def Uu (m:Bytes):Int:=if !aa m then 3 else if ie m []then 0 else 13
theorem Ft (m:Bytes):aA Tryz.prog 73 [G m []] (E (Uu m)):=by
 have hv:=aJ m;have hv0:=aJ [];rw[show aa []=true from rfl]at hv0
 by_cases h:aa m=true
 ·have hb:=wD h 0 oC;have hcm:=kX m [8];rw[h]at hv;rw[h,show aa [8]=true from rfl,show num [8]=8 from rfl]at hcm
  have he:aU (num m) 8<=0↔ ¬8<num m:=by unfold aU;split<;>(try split)<;>omega
  have e:Uu m=if(num m).testBit 0&&decide (8<num m)then 0 else 13:=by simp[Uu,ie,h]
  rw[e];clear e;generalize (num m).testBit 0=tb at*;refine eW Tryz.call73 Tryz.func73 ?_;repeat' first|simp only[go_sem,seval,nn]|refine cP hv ?_|refine cP hv0 ?_|refine cP hb ?_|refine cP Zl ?_|refine cP hcm ?_|refine sB ?_|apply xX<;>intro hc|refine⟨oD,?_⟩|exact oD|fail
  all_goals simp_all
 ·have h:aa m=false:=by simpa using h
  rw[h]at hv;have e:Uu m=3:=by simp[Uu,h]
  rw[e];refine eW Tryz.call73 Tryz.func73 ?_;exact z1 @hv
theorem My {m:Bytes} (lm:m.length<=8) (x:Bytes):aA Tryz.prog 158 [G m [], .s x] (.b (yp m [] x)):=by
 have h:=Qm lm [] x;refine eW Tryz.call158 Tryz.func158 ?_;repeat' first|simp only[go_sem,seval,nn]|refine cP h ?_|refine sB ?_|apply xX<;>intro hc|refine⟨oD,?_⟩|exact oD|fail
end Go.Proofs.YtfdjchnefpefbaaGreatDoor
namespace Go.Proofs.YtfdjchnefpefbaaGreatDoor
open Go Go.Dom Go.Num
set_option maxRecDepth 100000
set_option maxHeartbeats 8000000
structure U8 where
 (c sl mm mo mg mh wm wo wg wh se at' ha el es bl ma:Bytes)
def U8.pv (p:U8):PV:= .agg [.s p.c, .s p.sl, .s p.mm, .s p.mo, .s p.mg, .s p.mh, .s p.wm, .s p.wo, .s p.wg, .s p.wh, .s p.se, .s p.at', .s p.ha, .s p.el, .s p.es, .s p.bl, .s p.ma]
def U8.TL (p:U8):List Bytes:=[p.c,p.sl,p.se,p.at',p.ha,p.el,p.es,p.bl,p.ma,p.mm,p.mo,p.mg,p.mh,p.wm,p.wo,p.wg,p.wh]
theorem KI {x:Bytes} (h:aa x=true):aA Tryz.prog 44 [.s x, .s [2]] (E (aU (num x) 2)):=by
 have:=kX x [2]
 rwa[h,show aa [2]=true from rfl,show num [2]=2 from rfl]at this
theorem ri {x y:Bytes} (h:aa x=true) (g:aa y=true):aA Tryz.prog 44 [.s x, .s y] (E (aU (num x) (num y))):=by
 have:=kX x y
 rwa[h,g]at this
end Go.Proofs.YtfdjchnefpefbaaGreatDoor
namespace Go.Proofs.YtfdjchnefpefbaaGreatDoor
open Go Go.Dom Go.RowKit Go.Shelf
set_option maxRecDepth 100000
set_option maxHeartbeats 4000000
structure Key where
 (name m o z s:Bytes)
 r:List Bytes
 (u h:Bytes)
def Key.pv (k:Key):PV:= .agg [.s k.name, .s k.m, .s k.o, .s k.z, .s k.s, .sl (k.r.map .s), .s k.u, .s k.h]
end Go.Proofs.YtfdjchnefpefbaaGreatDoor
namespace Go.Proofs.YtfdjchnefpefbaaGreatDoor
open Go Go.Dom Go.Num
set_option maxRecDepth 100000
set_option maxHeartbeats 8000000
def th (i:Nat) (c:Int):Bool:= !((decide (c>=97)&&decide (c<=122))||(decide (c>=65)&&decide (c<=90)))&&(((i:Int)==0)||((c !=95)&&(decide (c<48)||decide (c>57))))
def Ib (n:Bytes) (i:Nat):Int:=((n.getD i 0).toNat:Int)
def ku (n:Bytes):Bool:=(List.range n.length).all (fun i=> !th i (Ib n i))&& !(n==[])&&decide (n.length<=32)

theorem eX {l:List Bytes} {x:Nat} (h:x<l.length):(l.map PV.s).getD x .fn0= .s (l.getD x []):=by
 simp[aR,h]
theorem kE {l:List Bytes} {y:PV} (h:y∈l.map PV.s):y.cells.length=1:=by
 obtain⟨c,_,rfl⟩:=bw.1 h;rfl
def dN {α:Type} (p:α->Bool):Nat->List α->Int
 | _,[]=> -1
 |k,x::r=>if p x then(k:Int)else dN p (k+1) r
theorem ig {α:Type} {p:α->Bool}: ∀{l:List α} {k:Nat},0<=dN p k l↔l.any p=true
 |[],k=>by simp[dN]
 |x::r,k=>by
  simp only[dN,List.any_cons];split
  ·rename_i h;simp[h]
  ·rename_i h;simp only[Bool.not_eq_true]at h;rw[ig,h,ka]
theorem drop_cons {l:List Bytes} {i:Nat} (h:i<l.length):l.drop i=l.getD i []::l.drop (i+1):=by
 rw[iq h,aR,bJ h];rfl
theorem yV (l:List Bytes) (f:FuncId) (p:Bytes->Bool) (hl:l.length<4611686018427387904) (h: ∀x,aA Tryz.prog f [.s x] (.b (p x))):aA Tryz.prog 403 [.sl (l.map .s), .fn (.func f)] (E (dN p 0 l)):=by
 refine eW Tryz.call403 Tryz.func403 ?_;refine uZ ?_;refine af (α:=Nat) (fun i=>l.length-i) (fun i=>⟨[(0, .v (.sl (l.map .s))),(1, .v (.fn (.func f))),(7, .v (.i .i64 l.length)),(8, .v (.i .i64 (i:Nat)))],[],_⟩) (fun i=>i<=l.length/\dN p i (l.drop i)=dN p 0 l) 0 (fun _=>an _) ⟨aH _,rfl⟩ ?_ ?_
 ·exact lE
 ·rintro i ⟨hi,hx⟩ R hR;rw[<-hx]
  by_cases hlt:i<l.length
  ·have e1:=eX hlt;have hf:=h (l.getD i []);have hgo:=hR (i+1);rw[<-hx,drop_cons hlt]at hgo;rw[drop_cons hlt];simp only[dN]at hgo⊢;clear hx hR h;generalize p (l.getD i [])=b at*;repeat' first|simp only[go_sem,seval,e1]|refine cP hf ?_|refine sB ?_|apply xX<;>intro hc|refine⟨oD,?_⟩|exact oD|fail
   all_goals first
    |(refine hgo ⟨by omega,by simp_all⟩ oO _ ?_;(refine AS.Le.of (by first|decide|omega) ?_ ?_<;>simp[dM,dL,aK,aj,AV.bd,AV.bd.bdL,u8,ai,ak,ar]);done)
    |(simp_all;done)
    |skip
  ·obtain rfl:i=l.length:=by omega
   rw[cX];repeat' first|simp only[go_sem,seval]|refine sB ?_|apply xX<;>intro hc|refine⟨oD,?_⟩|exact oD|fail
   all_goals simp[dN]
theorem sW (l:List Bytes) (f:FuncId) (p:Bytes->Bool) (hl:l.length<4611686018427387904) (h: ∀x,aA Tryz.prog f [.s x] (.b (p x))):aA Tryz.prog 306 [.sl (l.map .s), .fn (.func f)] (.b (l.any p)):=by
 have hi:=yV l f p hl h;have e:decide (dN p 0 l>=0)=l.any p:=by
  rw[dE,decide_eq_true_iff];exact ig
 refine eW Tryz.call306 Tryz.func306 ?_;exact o7 @e @hi
abbrev T (vs:List Bytes) (sd:Bytes) (at':Int):PV:= .agg [.sl (vs.map .s), .s sd, .i .i64 at']
theorem Lp (x:Bytes):aA Tryz.prog 368 [.s x] (.b (!aa x)):=by
 have hv:=aJ x;refine eW Tryz.call368 Tryz.func368 ?_;exact z1 @hv
def eD (vs:List Bytes) (at':Int):Bool:=decide (at'>=0)&&decide (at'<=2147483647)&& !(vs.any fun x=> !aa x)
theorem AJ (vs:List Bytes) (sd:Bytes) (at':Int) (hl:vs.length<4611686018427387904):aA Tryz.prog 251 [T vs sd at'] (.b (eD vs at')):=by
 have hcf:=sW vs _ (fun x=> !aa x) hl Lp
 unfold eD;generalize (vs.any fun x=> !aa x)=b at*
 refine eW Tryz.call251 Tryz.func251 ?_;repeat' first|simp only[go_sem,seval]|refine cP hcf ?_|refine sB ?_|apply xX<;>intro hc|refine⟨oD,?_⟩|exact oD|fail
 all_goals simp_all
 all_goals (intros;omega)
def uc (vs:List Bytes) (at':Int) (n:Bytes):Int:=if !(eD vs at'&&aa n)then 3 else if n=[]then 11 else 0
theorem rU (vs:List Bytes) (sd:Bytes) (at':Int) (n:Bytes) (hl:vs.length<4611686018427387904):aA Tryz.prog 142 [T vs sd at', .s n] (E (uc vs at' n)):=by
 have hg:=AJ vs sd at' hl;have hv:=aJ n;unfold uc;generalize eD vs at'=b at*;generalize aa n=b2 at*;refine eW Tryz.call142 Tryz.func142 ?_;exact U1 @hg @hv
def KS (vs:List Bytes) (sd:Bytes) (i:Nat) (n:Bytes):PV:=
 if num n<=num (vs.getD i [])then .tup [.s [],T [] [] 0,E 2]else .tup [.s (vs.getD i []),T vs sd (i+1:Nat),E 0]
theorem oF (l:List Bytes):(l.map PV.s).flatMap PV.cells=l.map PV.s:=by
 induction l with
 |nil=>rfl
 |cons x r ih=>simp_all[PV.cells]
theorem tS {l:List Bytes} {y:AV} (h:y∈List.map AV.v (List.flatMap PV.cells (l.map PV.s))):y.one=true:=by
 rw[oF,iQ]at h;obtain⟨c,_,rfl⟩:=bw.1 h;rfl
theorem lh (n:Nat) (x:AV):(List.replicate n [x]).flatten.length=n:=by
 induction n with
 |zero=>rfl
 |succ n ih=>rw[List.replicate_succ,List.flatten_cons,bm,ih,List.length_singleton];omega
theorem MO (vs:List Bytes):List.drop vs.length (List.replicate vs.length [AV.v (PV.s [])]).flatten=[]/\(List.map AV.v (List.map PV.s vs)).all AV.one=true/\List.take vs.length (List.map AV.v (List.map PV.s vs))=List.map AV.v (List.map PV.s vs)/\chunk 1 vs.length (List.map PV.s vs)=List.map PV.s vs:=by
 refine⟨?_,?_,?_,?_⟩
 ·rw[iO (by rw[lh];exact an _)]
 ·simp[bz,AV.one,PV.one]
 ·rw[cd (by simp)]
 ·have:=qo (List.map PV.s vs);rwa[aE]at this
theorem xu {vs:List Bytes} {i:Nat} (hi:i<vs.length):vs.getD i []∈vs:=by
 rw[aR,bJ hi];exact iR hi
theorem O6 {vs:List Bytes} (sd:Bytes) {i:Nat} {n:Bytes} (hv:vs.all aa=true) (hn:aa n=true) (hi:i<vs.length) (hl:vs.length<1000000):aA Tryz.prog 143 [T vs sd i, .s n] (KS vs sd i n):=by
 have hx:aa (vs.getD i [])=true:=bz.1 hv _ (xu hi);have hcm:=kX (vs.getD i []) n;rw[hx,hn]at hcm;simp only[db,if_true]at hcm;have e1:=eX hi;have e2:(aU (num (vs.getD i [])) (num n)>=0)=(num n<=num (vs.getD i [])):=wY _ _;unfold KS;generalize aU (num (vs.getD i [])) (num n)=cm at*
 by_cases hle:num n<=num (vs.getD i [])
 ·rw[if_pos hle];have e3:cm>=0:=by rw[e2];exact hle
  refine eW Tryz.call143 Tryz.func143 ?_;repeat' first|simp only[go_sem,seval,e1]|refine cP hcm ?_|refine sB ?_|apply xX<;>intro hc|refine⟨oD,?_⟩|exact oD|fail
  rfl
 ·rw[if_neg hle];have e3: ¬cm>=0:=by rw[e2];exact hle
  refine eW Tryz.call143 Tryz.func143 ?_;refine o8 @e1 @hcm ?_;refine⟨⟨fun x hx=>kE hx,fun y hy=>tS hy,by rw[lh];exact an _⟩,?_⟩
  obtain⟨r1,r2,r3,r4⟩:=MO vs;repeat' first|simp only[go_sem,seval,e1,lh,oF,r1,r2,r3,r4,eJ]|refine sB ?_|apply xX<;>intro hc|refine⟨oD,?_⟩|exact oD|fail
  simp

def U8.Ru (p:U8):List Bytes:=[p.c,p.sl,p.mm,p.mo,p.mg,p.mh,p.wm,p.wo,p.wg,p.wh,p.se,p.at',p.ha,p.el,p.es,p.bl,p.ma]
theorem PM {a b:Nat} (h:a*b<dw) (ha:a<dw) (hb:b<dw):aA Tryz.prog 392 [N a,N b] (.tup [N (a*b),E 0]):=by
 have:=Sj (aO a) (aO b);simp only[uR,vB ha,vB hb,db,if_true,aG,h]at this;exact this
theorem Oq {a b:Nat} (h:a+b<dw):aA Tryz.prog 77 [N a,N b] (.tup [N (a+b),E 0]):=by
 have:=RV (aO a) (aO b);simp only[y2,vB (show a<dw by omega),vB (show b<dw by omega),db,if_true,aG,h]at this
 exact this
theorem uW {a b:Nat} (h:b<=a) (ha:a<dw):aA Tryz.prog 75 [N a,N b] (.tup [N (a-b),E 0]):=by
 have:=JY (aO a) (aO b);simp only[ui,vB ha,vB (show b<dw by omega),db,if_true,aG,h]at this
 exact this
theorem rh {a b:Nat} (ha:a<dw) (hb:b<dw):aA Tryz.prog 44 [N a,N b] (E (aU a b)):=by
 have:=kX (aO a) (aO b);simp only[vB ha,vB hb,db,if_true,aG]at this;exact this
theorem BS {x:Int} (h:x.natAbs<dw):aA Tryz.prog 164 [Z x] (.b true):=by
 have:=fP (zs x) (zb x)
 rwa[U4 h]at this
theorem Kt {x y:Int} (hx:x.natAbs<dw) (hy:y.natAbs<dw):aA Tryz.prog 402 [Z x,Z y] (.b true):=by
 have v1:=BS hx;have v2:=BS hy;refine eW Tryz.call402 Tryz.func402 ?_;repeat' first|simp only[go_sem,seval,Z]|refine cP v1 ?_|refine cP v2 ?_|refine sB ?_|apply xX<;>intro hc|refine⟨oD,?_⟩|exact oD|fail
theorem xL (b:Bool) (n:Nat) {z:Int} (h:(if b then-(n:Int)else n)=z):aA Tryz.prog 81 [.b b,N n] (Z z):=by
 have:=vk b (aO n);rw[ZO,h]at this;exact this
theorem zu {n:Nat} (h:n<dw):aA Tryz.prog 35 [N n] (Z n):=pc (vB h)
theorem Sl:aA Tryz.prog 62 [E 1] (Z 1):=by
 have h1:=kf 1 oC;have hm:=xL false 1 rfl;refine eW Tryz.call62 Tryz.func62 ?_;repeat' first|simp only[go_sem,seval,Z]|refine cP h1 ?_|refine cP hm ?_|refine sB ?_|apply xX<;>intro hc|refine⟨oD,?_⟩|exact oD|fail
theorem XZ:aA Tryz.prog 62 [E 0] (Z 0):=by
 have h1:=kf 0 oC;have hm:=xL false 0 rfl;refine eW Tryz.call62 Tryz.func62 ?_;repeat' first|simp only[go_sem,seval,Z]|refine cP h1 ?_|refine cP hm ?_|refine sB ?_|apply xX<;>intro hc|refine⟨oD,?_⟩|exact oD|fail
theorem XY {y:Int} (h:y.natAbs<dw):aA Tryz.prog 434 [Z y] (Z (-y)):=by
 have hv:=BS h;have hm:=xL (!zs y) y.natAbs (Xm y);refine eW Tryz.call434 Tryz.func434 ?_;repeat' first|simp only[go_sem,seval,Z]|refine cP hv ?_|refine cP hm ?_|refine sB ?_|apply xX<;>intro hc|refine⟨oD,?_⟩|exact oD|fail
theorem Lx {x y:Int} (hx:x.natAbs<dw) (hy:y.natAbs<dw) (h:x.natAbs*y.natAbs<dw):aA Tryz.prog 303 [Z x,Z y] (.tup [Z (x*y),E 0]):=by
 have hb:=Kt hx hy;have hm:=PM h hx hy;have hk:=xL (zs x !=zs y) (x.natAbs*y.natAbs) (Xl x y);refine eW Tryz.call303 Tryz.func303 ?_;repeat' first|simp only[go_sem,seval,Z]|refine cP hb ?_|refine cP hm ?_|refine cP hk ?_|refine sB ?_|apply xX<;>intro hc|refine⟨oD,?_⟩|exact oD|fail
theorem Ly {x y:Int} (hx:x.natAbs<cZ) (hy:y.natAbs<cZ):aA Tryz.prog 303 [Z x,Z y] (.tup [Z (x*y),E 0]):=
 have hw:=BV
 Lx oO oO (bj (fR hx hy) Er)
theorem Dl {x y:Int} (hlim:x.natAbs+y.natAbs<dw):aA Tryz.prog 305 [Z x,Z y] (.tup [Z (x+y),E 0]):=by
 have hb0:=Kt (x:=x) (y:=y) oO oO
 by_cases hs:zs x=zs y
 ·have ha:=Oq hlim;have hk:=xL (zs x) (x.natAbs+y.natAbs) (RS hs);have hb: ∀ _:True,(zs x==zs y)=true:=fun _=>by rw[hs];simp
  clear hs hlim;refine eW Tryz.call305 Tryz.func305 ?_;repeat' first|simp only[go_sem,seval,Z,hb trivial]|refine cP hb0 ?_|refine cP ha ?_|refine cP hk ?_|refine sB ?_|apply xX<;>intro hc|refine⟨oD,?_⟩|exact oD|fail
 have hb: ∀ _:True,(zs x==zs y)=false:=fun _=>by simpa using hs
 have hcm:=rh (a:=x.natAbs) (b:=y.natAbs) oO oO
 by_cases hl:y.natAbs<=x.natAbs
 ·have hd:=uW hl oO;have hk:=xL (zs x) (x.natAbs-y.natAbs) (NN hs hl);have hg: ∀ _:True,decide (aU x.natAbs y.natAbs<0)=false:=fun _=>decide_eq_false (fun h=>by rw[fX]at h;omega)
  generalize aU x.natAbs y.natAbs=cm at*;clear hs hlim;refine eW Tryz.call305 Tryz.func305 ?_;repeat' first|simp only[go_sem,seval,Z,hb trivial,hg trivial]|refine cP hb0 ?_|refine cP hcm ?_|refine cP hd ?_|refine cP hk ?_|refine sB ?_|apply xX<;>intro hc|refine⟨oD,?_⟩|exact oD|fail
 ·have hd:=uW (a:=y.natAbs) (b:=x.natAbs) oO oO;have hk:=xL (zs y) (y.natAbs-x.natAbs) (RT hs oO);have hg: ∀ _:True,decide (aU x.natAbs y.natAbs<0)=true:=fun _=>decide_eq_true (by rw[fX];omega)
  generalize aU x.natAbs y.natAbs=cm at*;clear hs hlim;refine eW Tryz.call305 Tryz.func305 ?_;repeat' first|simp only[go_sem,seval,Z,hb trivial,hg trivial]|refine cP hb0 ?_|refine cP hcm ?_|refine cP hd ?_|refine cP hk ?_|refine sB ?_|apply xX<;>intro hc|refine⟨oD,?_⟩|exact oD|fail
theorem VY {x y:Int} (hx:x.natAbs<cZ) (hy:y.natAbs<cZ):aA Tryz.prog 305 [Z x,Z y] (.tup [Z (x+y),E 0]):=
 Dl (bj (show _<cZ*cZ by unfold cZ at*;omega) Er)
theorem Rl {x y:Int} (hlim:x.natAbs+y.natAbs<dw):aA Tryz.prog 355 [Z x,Z y] (.tup [Z (x-y),E 0]):=by
 have hb:=Kt (x:=x) (y:=y) oO oO;have hn:=XY (y:=y) oO;have ha:=Dl (x:=x) (y:= -y) oO;rw[<-Int.sub_eq_add_neg]at ha;refine eW Tryz.call355 Tryz.func355 ?_;repeat' first|simp only[go_sem,seval,Z]|refine cP hb ?_|refine cP hn ?_|refine cP ha ?_|refine sB ?_|apply xX<;>intro hc|refine⟨oD,?_⟩|exact oD|fail
theorem Rn {x y:Int} (hx:x.natAbs<cZ) (hy:y.natAbs<cZ):aA Tryz.prog 355 [Z x,Z y] (.tup [Z (x-y),E 0]):=
 Rl (bj (show _<cZ*cZ by unfold cZ at*;omega) Er)
theorem r9:18446744073709551616<=cZ:=by decide
theorem nP:18446744073709551616<=dw:=by unfold dw;decide+kernel
abbrev Z2 (x y:Int):PV:= .agg [.b (zs x), .s (zb x), .b (zs y), .s (zb y)]
theorem GH {q:Nat} {x0 x1:Int} (hq:q<18446744073709551616) (h0:x0.natAbs<18446744073709551616+1) (h1:x1.natAbs<18446744073709551616+1) (hp:(((q:Nat):Int)*x1).natAbs<cZ):aA Tryz.prog 354 [Z2 x0 x1, .pt (.agg [N q]) 0] (Z2 x1 (x0-(q:Nat)*x1)):=by
 have w1:=r9;have w2:=nP;have hf:=zu (n:=q) oO;have hm:=Ly (x:=(q:Int)) (y:=x1) (by rw[Int.natAbs_natCast];omega) (by unfold cZ;omega)
 have hs:=Rn (x:=x0) (y:=(q:Int)*x1) (by unfold cZ;omega) hp
 generalize (q:Int)*x1=v at*;generalize x0-v=u at*;refine eW Tryz.call354 Tryz.func354 ?_;repeat' first|simp only[go_sem,seval,Z,lJ,lH]|refine cP hf ?_|refine cP hm ?_|refine cP hs ?_|refine sB ?_|apply xX<;>intro hc|refine⟨oD,?_⟩|exact oD|fail
theorem Hj {r0 r1 B:Nat} {x1:Int} (h0:0<r1) (h:x1.natAbs*r0<=B):((((r0/r1:Nat):Int))*x1).natAbs<=B:=by
 rw[kI,Int.natAbs_natCast];have h1:r0/r1<=r0:=dZ _ _;have:=iw x1.natAbs h1;rw[bc]at this;omega
theorem CF {a b:Nat} (ha:a<18446744073709551616) (hb:b<18446744073709551616) (h0:0<b): ∃X Y:Int,(Nat.gcd a b=1->X.natAbs<18446744073709551616/\X.natAbs%b=ew a b)/\aA Tryz.prog 240 [N a,N b] (.tup [N (Nat.gcd a b),Z X,Z Y,E 0]):=by
 have w1:=r9;have w2:=nP;obtain⟨x',y',hE⟩:=C9 (a:=a) (b:=b) (f:=b+1) oO (qQ.start h0);obtain⟨res,hres⟩: ∃res,res=C8 (b+1) a b 1 0 0 1:=⟨_,rfl⟩;rw[<-hres]at hE;obtain⟨g,X0,Y0⟩:=res;simp only at hE;have hg:=hE.fin;have hgp:0<g:=by rw[hg];exact Nat.gcd_pos_of_pos_right _ h0
 have bx:=hE.bx0;have by':=hE.by0
 have hm1:b/g<=b:=dZ _ _;have hk1:a/g<=a:=dZ _ _;have v1:=aJ (aO a);have v2:=aJ (aO b);rw[vB (show a<dw by omega)]at v1
 rw[vB (show b<dw by omega)]at v2
 have e0:(aO b==([]:Bytes))=false:=rG oO;have d1:=qP (a:=b) (b:=g) hb (by have:g<=b:=(by rw[hg];exact B5 _ h0);omega) hgp
 have d2:=qP (a:=a) (b:=g) ha (by have:g<=b:=(by rw[hg];exact B5 _ h0);omega) hgp
 have f1:=zu (n:=b/g) oO;have f2:=zu (n:=a/g) oO;have ad:=VY (x:=X0) (y:=((b/g:Nat):Int)) (by unfold cZ;omega) (by rw[Int.natAbs_natCast];unfold cZ;omega)
 have sb:=Rn (x:=Y0) (y:=((a/g:Nat):Int)) (by unfold cZ;omega) (by rw[Int.natAbs_natCast];unfold cZ;omega)
 have o1:=Sl;have o0:=XZ;refine⟨if X0<0 then X0+((b/g:Nat):Int)else X0,if X0<0 then Y0-((a/g:Nat):Int)else Y0,?_,?_⟩
 ·intro h1;have g1:g=1:=by rw[hg];exact h1
  subst g1;obtain⟨k1,k3,k2⟩:=hE.inv h0 _ rfl;rw[iS];exact⟨by omega,k2⟩
 ·rw[<-hg];refine eW Tryz.call240 Tryz.func240 ?_;simp only[go_sem,seval,Z];repeat' first|simp only[go_sem,seval,e0,Z]|refine cP v1 ?_|refine cP v2 ?_|refine cP o1 ?_|refine cP o0 ?_|refine sB ?_|apply xX<;>intro hc|refine⟨oD,?_⟩|exact oD|fail
  refine af (α:=Nat×Nat×Nat×Int×Int×Int×Int) (fun s=>s.2.2.1) (fun s=>⟨[(0, .v (N a)),(1, .v (N b)),(5, .p 1001 0 0),(6, .p 1002 0 0),(8, .p 1017 0 0),(9, .p 1025 0 0),(10, .p 1026 0 0)],[(1001,⟨0,[.v (.b false), .v (.s [])],false,some 89⟩),(1002,⟨0,[.v (.b false), .v (.s [])],false,some 89⟩),(1017,⟨0,[.v (N s.2.1), .v (N s.2.2.1)],false,some 395⟩),(1025,⟨0,[.v (.b (zs s.2.2.2.1)), .v (.s (zb s.2.2.2.1)), .v (.b (zs s.2.2.2.2.1)), .v (.s (zb s.2.2.2.2.1))],false,some 396⟩),(1026,⟨0,[.v (.b (zs s.2.2.2.2.2.1)), .v (.s (zb s.2.2.2.2.2.1)), .v (.b (zs s.2.2.2.2.2.2)), .v (.s (zb s.2.2.2.2.2.2))],false,some 396⟩)],_⟩) (fun s=>s.2.2.1<s.1/\qQ a b s.2.1 s.2.2.1 s.2.2.2.1 s.2.2.2.2.1 s.2.2.2.2.2.1 s.2.2.2.2.2.2/\s.2.1<18446744073709551616/\s.2.2.1<18446744073709551616/\C8 s.1 s.2.1 s.2.2.1 s.2.2.2.1 s.2.2.2.2.1 s.2.2.2.2.2.1 s.2.2.2.2.2.2=(g,X0,Y0)) (b+1,a,b,1,0,0,1) (fun _=>an _) ⟨by show b<b+1;omega,qQ.start h0,ha,hb,hres.symm⟩ ?_ ?_
  ·exact lE
  ·rintro⟨f,r0,r1,x0,x1,y0,y1⟩ ⟨hf,hS,hr0,hr1,heq⟩ R hR;simp only at hf hS hr0 hr1 heq
   cases f with
   |zero=>omega
   |succ f=>
    unfold C8 at heq
    by_cases hz:r1=0
    ·subst hz;rw[if_pos rfl]at heq;simp only[cO]at heq;obtain⟨rfl,rfl,rfl⟩:=heq
     by_cases hx:x0<0
     ·have hzs:zs x0=true:=by simp[zs,hx]
      simp only[Z,hzs,lJ,lH]at ad f1 f2;simp only[Z,lJ,lH]at sb;rw[if_pos hx,if_pos hx];clear hR hres hE hS;repeat' first|simp only[go_sem,seval,Fg,Z,hzs,lJ,lH]|refine cP d1 ?_|refine cP d2 ?_|refine cP f1 ?_|refine cP f2 ?_|refine cP ad ?_|refine cP sb ?_|refine sB ?_|apply xX<;>intro hc|refine⟨oD,?_⟩|exact oD|fail
     ·have hzs:zs x0=false:=by simp[zs,hx]
      rw[if_neg hx,if_neg hx];clear hR hres hE hS;repeat' first|simp only[go_sem,seval,Fg,Z,hzs]|refine sB ?_|apply xX<;>intro hc|refine⟨oD,?_⟩|exact oD|fail
    ·rw[if_neg hz]at heq;have hpos:0<r1:=by omega
     have hst:=hS.step hpos;have hml:=aD r0 hpos;have hq:r0/r1<=r0:=dZ _ _;have dv:=qP hr0 hr1 hpos;have b1:=hS.bx0;have b2:=hS.bx1;have b3:=hS.by0;have b4:=hS.by1;have b5:=hS.hx;have b6:=hS.hy;have c1:=GH (q:=r0/r1) (x0:=x0) (x1:=x1) oO oO oO (by have:=Hj (r1:=r1) hpos (show x1.natAbs*r0<=b by omega);unfold cZ;omega)
     have c2:=GH (q:=r0/r1) (x0:=y0) (x1:=y1) oO oO oO (by have:=Hj (r1:=r1) hpos (show y1.natAbs*r0<=a by omega);unfold cZ;omega)
     have en:=rG hz;have hgo:=hR (f,r1,r0%r1,x1,x0-((r0/r1:Nat):Int)*x1,y1,y0-((r0/r1:Nat):Int)*y1) ⟨by show r0%r1<f;omega,hst,hr1,by show r0%r1< _;omega,heq⟩ hml
     clear hR heq hst hS b1 b2 b3 b4 b5 b6 hres hE;generalize x0-((r0/r1:Nat):Int)*x1=u at*;generalize y0-((r0/r1:Nat):Int)*y1=v at*;repeat' first|simp only[go_sem,seval,en,Z,Z2,aL]|refine cP dv ?_|refine cV c1 ?_|refine cV c2 ?_|refine sB ?_|apply xX<;>intro hc|refine⟨oD,?_⟩|exact oD|fail
     refine hgo _ ?_;exact lE
theorem qh {a m:Nat} (ha:a<18446744073709551616) (hm:m<18446744073709551616) (h0:0<m) (hg:Nat.gcd a m=1):aA Tryz.prog 130 [N a,N m] (.tup [N (ew a m),E 0]):=by
 have w1:=r9;have w2:=nP;have hc:=fun nm=>S7 nm (aO a) (aO m)
 rw[Q9 ha hm h0]at hc;have hl:=aD a h0;have hd:=kz ha hm h0;have hg':Nat.gcd (a%m) m=1:=by rw[<-hg,<-kM,jT]
 obtain⟨X,Y,h1,h3⟩:=CF (a:=a%m) (b:=m) oO hm h0;obtain⟨h4,h5⟩:=h1 hg';rw[hg']at h3;have hX:X.natAbs%m=ew a m:=by
  rw[h5];obtain⟨g1,g2⟩:=(gF h0 hg').inv;exact(gS g1 (by rw[gL]at g2;exact g2)).symm
 have hr:aA Tryz.prog 241 [.s (zb X),N m] (N (ew a m)):=by
  have:=kz h4 hm h0
  rwa[hX]at this
 clear h1 h4 h5 hX;refine eW Tryz.call130 Tryz.func130 ?_;repeat' first|simp only[go_sem,seval,Z,Mh,ey,bne_self_eq_false,beq_self_eq_true]|(refine bC (hc _) (by simp) ?_)|refine cP hd ?_|refine cP h3 ?_|refine cP hr ?_|refine sB ?_|apply xX<;>intro hc|refine⟨oD,?_⟩|exact oD|fail
theorem kW (n1 n2 nm:Nat) (hne:n1≠n2) {a b m:Nat} (o:Bytes) (el el2:Option TypeId) (ha:a<18446744073709551616) (hb:b<18446744073709551616) (hm:m<18446744073709551616) (h0:0<m):iB Tryz.prog 132 nm [(n1,⟨0,[.v (N a)],false,el⟩),(n2,⟨0,[.v (N m), .v (.s o)],false,el2⟩)] [.v (N b), .p n1 0 0, .p n2 0 0] (.tup []) [(n1,some ⟨0,[.v (N (a*b%m))],false,el⟩)]:=by
 have hx:=oJ ha hb hm h0;refine iB.w mixed Tryz.call132 Tryz.func132 rfl (je.1 _ _ _ (by cbv)) (je.2 _ _ (by cbv)) (obs:=[⟨0,[.v (N a)],false,el⟩,⟨0,[.v (N m), .v (.s o)],false,el2⟩]) (args:=[.v (N b), .p 0 0 0, .p 1 0 0]) (fs:=[some (some ⟨0,[.v (N (a*b%m))],false,el⟩),none]) (j:=none) (nw:=none) (v:= .tup []) (ns:=[n1,n2]) (obsA:=[⟨0,[.v (N a)],false,el⟩,⟨0,[.v (N m), .v (.s o)],false,el2⟩]) rfl ?_ (by simp) (by simp[hne]) rfl (by simp[aQ,au.aF,AV.aF,AV.aF.renL]) (by simp[aQ,AV.aF,cq,hne,kP hne]) (by simp[AV.aF,AV.aF.renL]) (by simp[eK,outs,au.aF,AV.aF,AV.aF.renL])
 simp only[go_sem,seval];repeat' first|simp only[go_sem,seval,true_or,or_true,false_or,or_false,ae,ga,dS,fL,fh,fj,dT,nu,oe,fB,fQ,cJ,aB,AV.aF,AV.aF.renL,ax]|refine cP hx ?_|refine sB ?_|apply xX<;>intro hc|refine⟨oD,?_⟩|exact oD|fail
 all_goals skip
theorem IQ {x:AV}:(List.replicate 1 [x]).flatten=[x]:=rfl
theorem zK {x:AV}:List.drop 1 [x]=[]:=rfl
theorem oZ {x:AV}:List.take 1 [x]=[x]:=rfl
theorem Jo {x y:AV}:List.set [x] 0 y=[y]:=rfl
theorem Q5 {n:Nat}:n/2^b9 n=0:=by
 refine gI ?_;unfold b9;split
 ·rename_i h;rw[h];decide
 ·rename_i h;exact sG
theorem ml (x:PV) (l:List PV):mM (.v x::l.map .v)=some (x::l):=by
 have h: ∀l:List PV,mM (l.map .v)=some l:=by
  intro l
  induction l with
  |nil=>rfl
  |cons y l ih=>
   unfold mM at ih⊢;rw[aS,aQ,ih];rfl
 have:=h (x::l);exact this
end Go.Proofs.YtfdjchnefpefbaaGreatDoor
namespace Go.Proofs.YtfdjchnefpefbaaGreatDoor
open Go Go.Dom Go.Num
set_option maxRecDepth 100000
set_option maxHeartbeats 16000000
theorem Yd {a b:Nat} (h:a<b):decide (aU a b>=0)=false:=decide_eq_false (fun g=>by have:=jW.1 g;omega)
theorem Ye {a b:Nat} (h:b<=a):decide (aU a b>=0)=true:=decide_eq_true (jW.2 h)
theorem Z8 (a b:Nat):decide (aU a b<0)=decide (a<b):=by rw[dE];simp only[decide_eq_true_eq];exact fX
theorem Jg (m o:Bytes):aA Tryz.prog 364 [G m o] (.b (aa m&&aa o)):=by
 have v1:=aM m;have v2:=aM o;refine eW Tryz.call364 Tryz.func364 ?_;exact U1 @v1 @v2
theorem MC {m:Bytes} (lm:m.length<=8) (o x:Bytes):aA Tryz.prog 246 [G m o, .s x] (.b (lu m o x)):=by
 have hf:=Jg m o;have vx:=aM x
 by_cases h:aa m=true/\aa o=true/\aa x=true/\o≠[]/\x≠[]
 ·obtain⟨v1,v2,v3,h4,h5⟩:=h;have e4:(o==([]:Bytes))=false:=by simpa using h4
  have e5:(x==([]:Bytes))=false:=by simpa using h5
  have hn:=dY lm;have lx:=cE v3;have hor:=kT (bK v3) (bK v1) oO oO;rw[v1,v2]at hf;rw[v3]at vx;have hx0:=rH (bK v3) h5
  by_cases h6:num x<num m
  ·have hE:=RC (a:=num x) (m:=num m) (e:=o) oO v2 hn oO;rw[eV v3,eV v1]at hE;have hlt: ∀ _:True,decide (aU (num x) (num m)>=0)=false:=fun _=>Yd oO
   have e:lu m o x=decide (num x^num o%num m=1):=by simp[lu,v1,v2,v3,e4,e5,h6,aV (show 1<num m by omega)]
   rw[e];generalize num x^num o%num m=z1 at*;refine eW Tryz.call246 Tryz.func246 ?_;repeat' first|simp only[go_sem,seval,e4,e5,hlt trivial,Mh]|refine cP hf ?_|refine cP vx ?_|refine cP hor ?_|refine cP hE ?_|refine sB ?_|apply xX<;>intro hc|refine⟨oD,?_⟩|exact oD|fail
  ·have hlt: ∀ _:True,decide (aU (num x) (num m)>=0)=true:=fun _=>Ye oO
   have e:lu m o x=false:=by simp[lu,h6]
   rw[e];refine eW Tryz.call246 Tryz.func246 ?_;exact JJ (aN @e4 (aN @e5 (hlt trivial))) @hf @vx @hor
 ·have e:lu m o x=false:=by
   rw[eZ];intro g;simp[lu]at g;exact h ⟨g.1.1.1.1.1.1,g.1.1.1.1.1.2,g.1.1.1.1.2,g.1.1.1.2,g.1.1.2⟩
  rw[e]
  by_cases hmo:(aa m&&aa o)=true
  case neg=>
   have hmo:(aa m&&aa o)=false:=by simpa using hmo
   rw[hmo]at hf;refine eW Tryz.call246 Tryz.func246 ?_;exact z2 @hf @vx
  rw[hmo]at hf
  by_cases v3:aa x=true
  case neg=>
   have v3:aa x=false:=by simpa using v3
   rw[v3]at vx;refine eW Tryz.call246 Tryz.func246 ?_;exact z2 @hf @vx
  rw[v3]at vx
  by_cases h4:o=[]
  ·subst h4;refine eW Tryz.call246 Tryz.func246 ?_;repeat' first|simp only[go_sem,seval,nn]|refine cP hf ?_|refine cP vx ?_|refine sB ?_|apply xX<;>intro hc|refine⟨oD,?_⟩|exact oD|fail
  ·have e4:(o==([]:Bytes))=false:=by simpa using h4
   by_cases h5:x=[]
   ·subst h5;refine eW Tryz.call246 Tryz.func246 ?_;repeat' first|simp only[go_sem,seval,nn,e4]|refine cP hf ?_|refine cP vx ?_|refine sB ?_|apply xX<;>intro hc|refine⟨oD,?_⟩|exact oD|fail
   ·simp only[aY]at hmo;exact absurd ⟨hmo.1,hmo.2,v3,h4,h5⟩ h
end Go.Proofs.YtfdjchnefpefbaaGreatDoor
