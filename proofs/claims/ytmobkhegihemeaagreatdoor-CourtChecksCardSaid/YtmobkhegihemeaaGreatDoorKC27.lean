/-
  Part of the proof, part KC27. Own work.
-/
import Derived.Test.YtmobkhegihemeaaGreatDoorKC26
set_option linter.all false
namespace Go.Proofs.YtmobkhegihemeaaGreatDoor
open Go Go.Dom Go.Num
set_option maxRecDepth 100000
set_option maxHeartbeats 4000000
def Sf (m:Bytes):Int:=if !aa m then 3 else if gV m []then 0 else 13
theorem DY (m:Bytes):aD Tryz.prog 73 [G m []] (E (Sf m)):=by
 have hv:=aM m;have hv0:=aM [];rw[show aa []=true from rfl]at hv0
 by_cases h:aa m=true
 ·have hb:=uM h 0 (by decide)
  have hcm:=kL m [8];rw[h]at hv;rw[h,show aa [8]=true from rfl,show num [8]=8 from rfl]at hcm
  have he:a6 (num m) 8≤0↔ ¬8<num m:=by unfold a6;split<;>(try split)<;>omega
  have e:Sf m=if(num m).testBit 0&&decide (8<num m)then 0 else 13:=by simp[Sf,gV,h]
  rw[e];clear e;generalize (num m).testBit 0=tb at*;refine eW Tryz.call73 Tryz.func73 ?_;repeat' first|simp only[go_sem,seval,nn]|refine cP hv ?_|refine cP hv0 ?_|refine cP hb ?_|refine cP We ?_|refine cP hcm ?_|refine sB ?_|(first|apply pX|apply bX)<;>intro hc|refine⟨oD,?_⟩|exact oD|fail
  all_goals simp_all
 ·have h:aa m=false:=by simpa using h
  rw[h]at hv;have e:Sf m=3:=by simp[Sf,h]
  rw[e];refine eW Tryz.call73 Tryz.func73 ?_;repeat' first|simp only[go_sem,seval]|refine cP hv ?_|refine sB ?_|(first|apply pX|apply bX)<;>intro hc|refine⟨oD,?_⟩|exact oD|fail
theorem KH {m:Bytes} (lm:m.length≤8) (x:Bytes):aD Tryz.prog 79 [G m [], .s x] (.b (w9 m [] x)):=by
 have h:=Od lm [] x;refine eW Tryz.call79 Tryz.func79 ?_;repeat' first|simp only[go_sem,seval,nn]|refine cP h ?_|refine sB ?_|(first|apply pX|apply bX)<;>intro hc|refine⟨oD,?_⟩|exact oD|fail
end Go.Proofs.YtmobkhegihemeaaGreatDoor
namespace Go.Proofs.YtmobkhegihemeaaGreatDoor
open Go Go.Dom Go.Num
set_option maxRecDepth 100000
set_option maxHeartbeats 8000000
structure SM where
 (c sl mm mo mg mh wm wo wg wh se at' ha el es bl ma:Bytes)
def SM.pv (p:SM):PV:= .agg [.s p.c, .s p.sl, .s p.mm, .s p.mo, .s p.mg, .s p.mh, .s p.wm, .s p.wo, .s p.wg, .s p.wh, .s p.se, .s p.at', .s p.ha, .s p.el, .s p.es, .s p.bl, .s p.ma]
def SM.Rt (p:SM):List Bytes:=[p.c,p.sl,p.se,p.at',p.ha,p.el,p.es,p.bl,p.ma,p.mm,p.mo,p.mg,p.mh,p.wm,p.wo,p.wg,p.wh]
theorem Ja {x:Bytes} (h:aa x=true):aD Tryz.prog 30 [.s x, .s [2]] (E (a6 (num x) 2)):=by
 have:=kL x [2]
 rwa[h,show aa [2]=true from rfl,show num [2]=2 from rfl]at this
theorem qj {x y:Bytes} (h:aa x=true) (g:aa y=true):aD Tryz.prog 30 [.s x, .s y] (E (a6 (num x) (num y))):=by
 have:=kL x y
 rwa[h,g]at this
end Go.Proofs.YtmobkhegihemeaaGreatDoor
namespace Go.Proofs.YtmobkhegihemeaaGreatDoor
open Go Go.Dom Go.RowKit Go.Shelf
set_option maxRecDepth 100000
set_option maxHeartbeats 4000000
structure Key where
 (name m o z s:Bytes)
 r:List Bytes
 (u h:Bytes)
def Key.pv (k:Key):PV:= .agg [.s k.name, .s k.m, .s k.o, .s k.z, .s k.s, .sl (k.r.map .s), .s k.u, .s k.h]
end Go.Proofs.YtmobkhegihemeaaGreatDoor
namespace Go.Proofs.YtmobkhegihemeaaGreatDoor
open Go Go.Dom Go.Num
set_option maxRecDepth 100000
set_option maxHeartbeats 8000000
def rQ (i:Nat) (c:Int):Bool:= !((decide (c≥97)&&decide (c≤122))||(decide (c≥65)&&decide (c≤90)))&&(((i:Int)==0)||((c !=95)&&(decide (c<48)||decide (c>57))))
def GG (n:Bytes) (i:Nat):Int:=((n.getD i 0).toNat:Int)
def kq (n:Bytes):Bool:=(List.range n.length).all (fun i=> !rQ i (GG n i))&& !(n==[])&&decide (n.length≤32)

theorem eA {l:List Bytes} {x:Nat} (h:x<l.length):(l.map PV.s).getD x .fn0= .s (l.getD x []):=by
 simp[aX,h]
theorem y9 {l:List Bytes} {y:PV} (h:y∈l.map PV.s):y.cells.length=1:=by
 obtain⟨c,_,rfl⟩:=a5.1 h;rfl
def dA {α:Type} (p:α→Bool):Nat→List α→Int
 | _,[]=> -1
 |k,x::r=>if p x then(k:Int)else dA p (k+1) r
theorem gW {α:Type} {p:α→Bool}: ∀{l:List α} {k:Nat},0≤dA p k l↔l.any p=true
 |[],k=>by simp[dA]
 |x::r,k=>by
  simp only[dA,List.any_cons];split
  ·rename_i h;simp[h]
  ·rename_i h;simp only[Bool.not_eq_true]at h;rw[gW,h,mb]
theorem drop_cons {l:List Bytes} {i:Nat} (h:i<l.length):l.drop i=l.getD i []::l.drop (i+1):=by
 rw[ig h,aX,aU h];rfl
theorem xH (l:List Bytes) (f:FuncId) (p:Bytes→Bool) (hl:l.length<4611686018427387904) (h: ∀x,aD Tryz.prog f [.s x] (.b (p x))):aD Tryz.prog 312 [.sl (l.map .s), .fn (.func f)] (E (dA p 0 l)):=by
 refine eW Tryz.call312 Tryz.func312 ?_;repeat' first|simp only[go_sem,seval]|refine sB ?_|(first|apply pX|apply bX)<;>intro hc|refine⟨oD,?_⟩|exact oD|fail
 refine aj (α:=Nat) (fun i=>l.length-i) (fun i=>⟨[(0, .v (.sl (l.map .s))),(1, .v (.fn (.func f))),(7, .v (.i .i64 l.length)),(8, .v (.i .i64 (i:Nat)))],[],_⟩) (fun i=>i≤l.length∧dA p i (l.drop i)=dA p 0 l) 0 (fun _=>au _) ⟨aL _,rfl⟩ ?_ ?_
 ·exact lE
 ·rintro i ⟨hi,hx⟩ R hR;rw[←hx]
  by_cases hlt:i<l.length
  ·have e1:=eA hlt;have hf:=h (l.getD i []);have hgo:=hR (i+1);rw[←hx,drop_cons hlt]at hgo;rw[drop_cons hlt];simp only[dA]at hgo⊢;clear hx hR h;generalize p (l.getD i [])=b at*;repeat' first|simp only[go_sem,seval,e1]|refine cP hf ?_|refine sB ?_|(first|apply pX|apply bX)<;>intro hc|refine⟨oD,?_⟩|exact oD|fail
   all_goals first
    |(refine hgo ⟨by omega,by simp_all⟩ (by omega) _ ?_;(refine AS.Le.of (by first|decide|omega) ?_ ?_<;>simp[cl,cj,aF,ar,AV.bd,AV.bd.bdL,u8,ah,ai,aq]);done)
    |(simp_all;done)
    |skip
  ·obtain rfl:i=l.length:=by omega
   rw[cY];repeat' first|simp only[go_sem,seval]|refine sB ?_|(first|apply pX|apply bX)<;>intro hc|refine⟨oD,?_⟩|exact oD|fail
   all_goals simp[dA]
theorem rF (l:List Bytes) (f:FuncId) (p:Bytes→Bool) (hl:l.length<4611686018427387904) (h: ∀x,aD Tryz.prog f [.s x] (.b (p x))):aD Tryz.prog 245 [.sl (l.map .s), .fn (.func f)] (.b (l.any p)):=by
 have hi:=xH l f p hl h;have e:decide (dA p 0 l≥0)=l.any p:=by
  rw[dx,decide_eq_true_iff];exact gW
 refine eW Tryz.call245 Tryz.func245 ?_;repeat' first|simp only[go_sem,seval,e]|refine cP hi ?_|refine sB ?_|(first|apply pX|apply bX)<;>intro hc|refine⟨oD,?_⟩|exact oD|fail
abbrev T (vs:List Bytes) (sd:Bytes) (at':Int):PV:= .agg [.sl (vs.map .s), .s sd, .i .i64 at']
theorem JG (x:Bytes):aD Tryz.prog 246 [.s x] (.b (!aa x)):=by
 have hv:=aM x;refine eW Tryz.call246 Tryz.func246 ?_;repeat' first|simp only[go_sem,seval]|refine cP hv ?_|refine sB ?_|(first|apply pX|apply bX)<;>intro hc|refine⟨oD,?_⟩|exact oD|fail
def eU (vs:List Bytes) (at':Int):Bool:=decide (at'≥0)&&decide (at'≤2147483647)&& !(vs.any fun x=> !aa x)
theorem zf (vs:List Bytes) (sd:Bytes) (at':Int) (hl:vs.length<4611686018427387904):aD Tryz.prog 165 [T vs sd at'] (.b (eU vs at')):=by
 have hcf:=rF vs _ (fun x=> !aa x) hl JG
 unfold eU;generalize (vs.any fun x=> !aa x)=b at*
 refine eW Tryz.call165 Tryz.func165 ?_;repeat' first|simp only[go_sem,seval]|refine cP hcf ?_|refine sB ?_|(first|apply pX|apply bX)<;>intro hc|refine⟨oD,?_⟩|exact oD|fail
 all_goals simp_all
 all_goals (intros;omega)
def sF (vs:List Bytes) (at':Int) (n:Bytes):Int:=if !(eU vs at'&&aa n)then 3 else if n=[]then 11 else 0
theorem qI (vs:List Bytes) (sd:Bytes) (at':Int) (n:Bytes) (hl:vs.length<4611686018427387904):aD Tryz.prog 110 [T vs sd at', .s n] (E (sF vs at' n)):=by
 have hg:=zf vs sd at' hl;have hv:=aM n;unfold sF;generalize eU vs at'=b at*;generalize aa n=b2 at*;refine eW Tryz.call110 Tryz.func110 ?_;repeat' first|simp only[go_sem,seval]|refine cP hg ?_|refine cP hv ?_|refine sB ?_|(first|apply pX|apply bX)<;>intro hc|refine⟨oD,?_⟩|exact oD|fail
 all_goals simp_all
def Jk (vs:List Bytes) (sd:Bytes) (i:Nat) (n:Bytes):PV:=
 if num n≤num (vs.getD i [])then .tup [.s [],T [] [] 0,E 2]else .tup [.s (vs.getD i []),T vs sd (i+1:Nat),E 0]
theorem vH (l:List Bytes):(l.map PV.s).flatMap PV.cells=l.map PV.s:=by
 induction l with
 |nil=>rfl
 |cons x r ih=>simp_all[PV.cells]
theorem Kr {l:List Bytes} {y:AV} (h:y∈List.map AV.v (List.flatMap PV.cells (l.map PV.s))):y.one=true:=by
 rw[vH,jE]at h;obtain⟨c,_,rfl⟩:=a5.1 h;rfl
theorem kQ (n:Nat) (x:AV):(List.replicate n [x]).flatten.length=n:=by
 induction n with
 |zero=>rfl
 |succ n ih=>rw[List.replicate_succ,List.flatten_cons,bC,ih,List.length_singleton];omega
theorem Om (vs:List Bytes):List.drop vs.length (List.replicate vs.length [AV.v (PV.s [])]).flatten=[]∧(List.map AV.v (List.map PV.s vs)).all AV.one=true∧List.take vs.length (List.map AV.v (List.map PV.s vs))=List.map AV.v (List.map PV.s vs)∧chunk 1 vs.length (List.map PV.s vs)=List.map PV.s vs:=by
 refine⟨?_,?_,?_,?_⟩
 ·rw[gS (by rw[kQ];exact au _)]
 ·simp[bc,AV.one,PV.one]
 ·rw[bM (by simp)]
 ·have:=mU (List.map PV.s vs);rwa[aH]at this
theorem BJ {vs:List Bytes} {i:Nat} (hi:i<vs.length):vs.getD i []∈vs:=by
 rw[aX,aU hi];exact jc hi
theorem MW {vs:List Bytes} (sd:Bytes) {i:Nat} {n:Bytes} (hv:vs.all aa=true) (hn:aa n=true) (hi:i<vs.length) (hl:vs.length<1000000):aD Tryz.prog 111 [T vs sd i, .s n] (Jk vs sd i n):=by
 have hx:aa (vs.getD i [])=true:=bc.1 hv _ (BJ hi);have hcm:=kL (vs.getD i []) n;rw[hx,hn]at hcm;simp only[dh,if_true]at hcm;have e1:=eA hi;have e2:(a6 (num (vs.getD i [])) (num n)≥0)=(num n≤num (vs.getD i [])):=vk _ _;unfold Jk;generalize a6 (num (vs.getD i [])) (num n)=cm at*
 by_cases hle:num n≤num (vs.getD i [])
 ·rw[if_pos hle];have e3:cm≥0:=by rw[e2];exact hle
  refine eW Tryz.call111 Tryz.func111 ?_;repeat' first|simp only[go_sem,seval,e1]|refine cP hcm ?_|refine sB ?_|(first|apply pX|apply bX)<;>intro hc|refine⟨oD,?_⟩|exact oD|fail
  rfl
 ·rw[if_neg hle];have e3: ¬cm≥0:=by rw[e2];exact hle
  refine eW Tryz.call111 Tryz.func111 ?_;repeat' first|simp only[go_sem,seval,e1]|refine cP hcm ?_|refine sB ?_|(first|apply pX|apply bX)<;>intro hc|refine⟨oD,?_⟩|exact oD|fail
  refine⟨⟨fun x hx=>y9 hx,fun y hy=>Kr hy,by rw[kQ];exact au _⟩,?_⟩
  obtain⟨r1,r2,r3,r4⟩:=Om vs;repeat' first|simp only[go_sem,seval,e1,kQ,vH,r1,r2,r3,r4,eF]|refine sB ?_|(first|apply pX|apply bX)<;>intro hc|refine⟨oD,?_⟩|exact oD|fail
  simp

def SM.Ps (p:SM):List Bytes:=[p.c,p.sl,p.mm,p.mo,p.mg,p.mh,p.wm,p.wo,p.wg,p.wh,p.se,p.at',p.ha,p.el,p.es,p.bl,p.ma]
theorem NJ {a b:Nat} (h:a*b<du) (ha:a<du) (hb:b<du):aD Tryz.prog 326 [N a,N b] (.tup [N (a*b),E 0]):=by
 have:=Qa (aP a) (aP b);simp only[tB,vB ha,vB hb,dh,if_true,aK,h]at this;exact this
theorem Mg {a b:Nat} (h:a+b<du):aD Tryz.prog 95 [N a,N b] (.tup [N (a+b),E 0]):=by
 have:=PN (aP a) (aP b);simp only[xM,vB (show a<du by omega),vB (show b<du by omega),dh,if_true,aK,h]at this
 exact this
theorem tF {a b:Nat} (h:b≤a) (ha:a<du):aD Tryz.prog 94 [N a,N b] (.tup [N (a-b),E 0]):=by
 have:=Ip (aP a) (aP b);simp only[sK,vB ha,vB (show b<du by omega),dh,if_true,aK,h]at this
 exact this
theorem qi {a b:Nat} (ha:a<du) (hb:b<du):aD Tryz.prog 30 [N a,N b] (E (a6 a b)):=by
 have:=kL (aP a) (aP b);simp only[vB ha,vB hb,dh,if_true,aK]at this;exact this
theorem Am {x:Int} (h:x.natAbs<du):aD Tryz.prog 171 [Z x] (.b true):=by
 have:=fJ (zs x) (zb x)
 rwa[SI h]at this
theorem I0 {x y:Int} (hx:x.natAbs<du) (hy:y.natAbs<du):aD Tryz.prog 336 [Z x,Z y] (.b true):=by
 have v1:=Am hx;have v2:=Am hy;refine eW Tryz.call336 Tryz.func336 ?_;repeat' first|simp only[go_sem,seval,Z]|refine cP v1 ?_|refine cP v2 ?_|refine sB ?_|(first|apply pX|apply bX)<;>intro hc|refine⟨oD,?_⟩|exact oD|fail
theorem wq (b:Bool) (n:Nat) {z:Int} (h:(if b then-(n:Int)else n)=z):aD Tryz.prog 99 [.b b,N n] (Z z):=by
 have:=tQ b (aP n);rw[WH,h]at this;exact this
theorem x7 {n:Nat} (h:n<du):aD Tryz.prog 47 [N n] (Z n):=oo (vB h)
theorem Qc:aD Tryz.prog 70 [E 1] (Z 1):=by
 have h1:=jT 1 (by decide)
 have hm:=wq false 1 rfl;refine eW Tryz.call70 Tryz.func70 ?_;repeat' first|simp only[go_sem,seval,Z]|refine cP h1 ?_|refine cP hm ?_|refine sB ?_|(first|apply pX|apply bX)<;>intro hc|refine⟨oD,?_⟩|exact oD|fail
theorem Vb:aD Tryz.prog 70 [E 0] (Z 0):=by
 have h1:=jT 0 (by decide)
 have hm:=wq false 0 rfl;refine eW Tryz.call70 Tryz.func70 ?_;repeat' first|simp only[go_sem,seval,Z]|refine cP h1 ?_|refine cP hm ?_|refine sB ?_|(first|apply pX|apply bX)<;>intro hc|refine⟨oD,?_⟩|exact oD|fail
theorem Va {y:Int} (h:y.natAbs<du):aD Tryz.prog 352 [Z y] (Z (-y)):=by
 have hv:=Am h;have hm:=wq (!zs y) y.natAbs (UT y);refine eW Tryz.call352 Tryz.func352 ?_;repeat' first|simp only[go_sem,seval,Z]|refine cP hv ?_|refine cP hm ?_|refine sB ?_|(first|apply pX|apply bX)<;>intro hc|refine⟨oD,?_⟩|exact oD|fail
theorem JN {x y:Int} (hx:x.natAbs<du) (hy:y.natAbs<du) (h:x.natAbs*y.natAbs<du):aD Tryz.prog 280 [Z x,Z y] (.tup [Z (x*y),E 0]):=by
 have hb:=I0 hx hy;have hm:=NJ h hx hy;have hk:=wq (zs x !=zs y) (x.natAbs*y.natAbs) (US x y);refine eW Tryz.call280 Tryz.func280 ?_;repeat' first|simp only[go_sem,seval,Z]|refine cP hb ?_|refine cP hm ?_|refine cP hk ?_|refine sB ?_|(first|apply pX|apply bX)<;>intro hc|refine⟨oD,?_⟩|exact oD|fail
theorem JO {x y:Int} (hx:x.natAbs<c9) (hy:y.natAbs<c9):aD Tryz.prog 280 [Z x,Z y] (.tup [Z (x*y),E 0]):=
 have hw:=Ao
 JN (by omega) (by omega) (a9 (fO hx hy) C2)
theorem BO {x y:Int} (hlim:x.natAbs+y.natAbs<du):aD Tryz.prog 282 [Z x,Z y] (.tup [Z (x+y),E 0]):=by
 have hb0:=I0 (x:=x) (y:=y) (by omega) (by omega)
 by_cases hs:zs x=zs y
 ·have ha:=Mg hlim;have hk:=wq (zs x) (x.natAbs+y.natAbs) (PL hs);have hb: ∀ _:True,(zs x==zs y)=true:=fun _=>by rw[hs];simp
  clear hs hlim;refine eW Tryz.call282 Tryz.func282 ?_;repeat' first|simp only[go_sem,seval,Z,hb trivial]|refine cP hb0 ?_|refine cP ha ?_|refine cP hk ?_|refine sB ?_|(first|apply pX|apply bX)<;>intro hc|refine⟨oD,?_⟩|exact oD|fail
 have hb: ∀ _:True,(zs x==zs y)=false:=fun _=>by simpa using hs
 have hcm:=qi (a:=x.natAbs) (b:=y.natAbs) (by omega) (by omega)
 by_cases hl:y.natAbs≤x.natAbs
 ·have hd:=tF hl (by omega)
  have hk:=wq (zs x) (x.natAbs-y.natAbs) (LA hs hl);have hg: ∀ _:True,decide (a6 x.natAbs y.natAbs<0)=false:=fun _=>decide_eq_false (fun h=>by rw[fS]at h;omega)
  generalize a6 x.natAbs y.natAbs=cm at*;clear hs hlim;refine eW Tryz.call282 Tryz.func282 ?_;repeat' first|simp only[go_sem,seval,Z,hb trivial,hg trivial]|refine cP hb0 ?_|refine cP hcm ?_|refine cP hd ?_|refine cP hk ?_|refine sB ?_|(first|apply pX|apply bX)<;>intro hc|refine⟨oD,?_⟩|exact oD|fail
 ·have hd:=tF (a:=y.natAbs) (b:=x.natAbs) (by omega) (by omega)
  have hk:=wq (zs y) (y.natAbs-x.natAbs) (PM hs (by omega))
  have hg: ∀ _:True,decide (a6 x.natAbs y.natAbs<0)=true:=fun _=>decide_eq_true (by rw[fS];omega)
  generalize a6 x.natAbs y.natAbs=cm at*;clear hs hlim;refine eW Tryz.call282 Tryz.func282 ?_;repeat' first|simp only[go_sem,seval,Z,hb trivial,hg trivial]|refine cP hb0 ?_|refine cP hcm ?_|refine cP hd ?_|refine cP hk ?_|refine sB ?_|(first|apply pX|apply bX)<;>intro hc|refine⟨oD,?_⟩|exact oD|fail
theorem TA {x y:Int} (hx:x.natAbs<c9) (hy:y.natAbs<c9):aD Tryz.prog 282 [Z x,Z y] (.tup [Z (x+y),E 0]):=
 BO (a9 (show _<c9*c9 by unfold c9 at*;omega) C2)
theorem Pm {x y:Int} (hlim:x.natAbs+y.natAbs<du):aD Tryz.prog 298 [Z x,Z y] (.tup [Z (x-y),E 0]):=by
 have hb:=I0 (x:=x) (y:=y) (by omega) (by omega)
 have hn:=Va (y:=y) (by omega)
 have ha:=BO (x:=x) (y:= -y) (by omega)
 rw[←Int.sub_eq_add_neg]at ha;refine eW Tryz.call298 Tryz.func298 ?_;repeat' first|simp only[go_sem,seval,Z]|refine cP hb ?_|refine cP hn ?_|refine cP ha ?_|refine sB ?_|(first|apply pX|apply bX)<;>intro hc|refine⟨oD,?_⟩|exact oD|fail
theorem Pn {x y:Int} (hx:x.natAbs<c9) (hy:y.natAbs<c9):aD Tryz.prog 298 [Z x,Z y] (.tup [Z (x-y),E 0]):=
 Pm (a9 (show _<c9*c9 by unfold c9 at*;omega) C2)
theorem qT:18446744073709551616≤c9:=by decide
theorem np:18446744073709551616≤du:=by unfold du;decide+kernel
abbrev Z2 (x y:Int):PV:= .agg [.b (zs x), .s (zb x), .b (zs y), .s (zb y)]
theorem Fe {q:Nat} {x0 x1:Int} (hq:q<18446744073709551616) (h0:x0.natAbs<18446744073709551616+1) (h1:x1.natAbs<18446744073709551616+1) (hp:(((q:Nat):Int)*x1).natAbs<c9):aD Tryz.prog 297 [Z2 x0 x1, .pt (.agg [N q]) 0] (Z2 x1 (x0-(q:Nat)*x1)):=by
 have w1:=qT;have w2:=np;have hf:=x7 (n:=q) (by omega)
 have hm:=JO (x:=(q:Int)) (y:=x1) (by rw[Int.natAbs_natCast];omega) (by unfold c9;omega)
 have hs:=Pn (x:=x0) (y:=(q:Int)*x1) (by unfold c9;omega) hp
 generalize (q:Int)*x1=v at*;generalize x0-v=u at*;refine eW Tryz.call297 Tryz.func297 ?_;repeat' first|simp only[go_sem,seval,Z,kY,kX]|refine cP hf ?_|refine cP hm ?_|refine cP hs ?_|refine sB ?_|(first|apply pX|apply bX)<;>intro hc|refine⟨oD,?_⟩|exact oD|fail
theorem FO {r0 r1 B:Nat} {x1:Int} (h0:0<r1) (h:x1.natAbs*r0≤B):((((r0/r1:Nat):Int))*x1).natAbs≤B:=by
 rw[kC,Int.natAbs_natCast];have h1:r0/r1≤r0:=dR _ _;have:=ic x1.natAbs h1;rw[a7]at this;omega
theorem Ba {a b:Nat} (ha:a<18446744073709551616) (hb:b<18446744073709551616) (h0:0<b): ∃X Y:Int,(Nat.gcd a b=1→X.natAbs<18446744073709551616∧X.natAbs%b=eV a b)∧aD Tryz.prog 208 [N a,N b] (.tup [N (Nat.gcd a b),Z X,Z Y,E 0]):=by
 have w1:=qT;have w2:=np;obtain⟨x',y',hE⟩:=BA (a:=a) (b:=b) (f:=b+1) (by omega) (pS.start h0)
 obtain⟨res,hres⟩: ∃res,res=Bz (b+1) a b 1 0 0 1:=⟨_,rfl⟩;rw[←hres]at hE;obtain⟨g,X0,Y0⟩:=res;simp only at hE;have hg:=hE.fin;have hgp:0<g:=by rw[hg];exact Nat.gcd_pos_of_pos_right _ h0
 have bx:=hE.bx0;have by':=hE.by0
 have hm1:b/g≤b:=dR _ _;have hk1:a/g≤a:=dR _ _;have v1:=aM (aP a);have v2:=aM (aP b);rw[vB (show a<du by omega)]at v1
 rw[vB (show b<du by omega)]at v2
 have e0:(aP b==([]:Bytes))=false:=qz (by omega)
 have d1:=pR (a:=b) (b:=g) hb (by have:g≤b:=(by rw[hg];exact Az _ h0);omega) hgp
 have d2:=pR (a:=a) (b:=g) ha (by have:g≤b:=(by rw[hg];exact Az _ h0);omega) hgp
 have f1:=x7 (n:=b/g) (by omega)
 have f2:=x7 (n:=a/g) (by omega)
 have ad:=TA (x:=X0) (y:=((b/g:Nat):Int)) (by unfold c9;omega) (by rw[Int.natAbs_natCast];unfold c9;omega)
 have sb:=Pn (x:=Y0) (y:=((a/g:Nat):Int)) (by unfold c9;omega) (by rw[Int.natAbs_natCast];unfold c9;omega)
 have o1:=Qc;have o0:=Vb;refine⟨if X0<0 then X0+((b/g:Nat):Int)else X0,if X0<0 then Y0-((a/g:Nat):Int)else Y0,?_,?_⟩
 ·intro h1;have g1:g=1:=by rw[hg];exact h1
  subst g1;obtain⟨k1,k3,k2⟩:=hE.inv h0 _ rfl;rw[iY];exact⟨by omega,k2⟩
 ·rw[←hg];refine eW Tryz.call208 Tryz.func208 ?_;simp only[go_sem,seval,Z];repeat' first|simp only[go_sem,seval,e0,Z]|refine cP v1 ?_|refine cP v2 ?_|refine cP o1 ?_|refine cP o0 ?_|refine sB ?_|(first|apply pX|apply bX)<;>intro hc|refine⟨oD,?_⟩|exact oD|fail
  refine aj (α:=Nat×Nat×Nat×Int×Int×Int×Int) (fun s=>s.2.2.1) (fun s=>⟨[(0, .v (N a)),(1, .v (N b)),(5, .p 1001 0 0),(6, .p 1002 0 0),(8, .p 1017 0 0),(9, .p 1025 0 0),(10, .p 1026 0 0)],[(1001,⟨0,[.v (.b false), .v (.s [])],false,some 49⟩),(1002,⟨0,[.v (.b false), .v (.s [])],false,some 49⟩),(1017,⟨0,[.v (N s.2.1), .v (N s.2.2.1)],false,some 343⟩),(1025,⟨0,[.v (.b (zs s.2.2.2.1)), .v (.s (zb s.2.2.2.1)), .v (.b (zs s.2.2.2.2.1)), .v (.s (zb s.2.2.2.2.1))],false,some 344⟩),(1026,⟨0,[.v (.b (zs s.2.2.2.2.2.1)), .v (.s (zb s.2.2.2.2.2.1)), .v (.b (zs s.2.2.2.2.2.2)), .v (.s (zb s.2.2.2.2.2.2))],false,some 344⟩)],_⟩) (fun s=>s.2.2.1<s.1∧pS a b s.2.1 s.2.2.1 s.2.2.2.1 s.2.2.2.2.1 s.2.2.2.2.2.1 s.2.2.2.2.2.2∧s.2.1<18446744073709551616∧s.2.2.1<18446744073709551616∧Bz s.1 s.2.1 s.2.2.1 s.2.2.2.1 s.2.2.2.2.1 s.2.2.2.2.2.1 s.2.2.2.2.2.2=(g,X0,Y0)) (b+1,a,b,1,0,0,1) (fun _=>au _) ⟨by show b<b+1;omega,pS.start h0,ha,hb,hres.symm⟩ ?_ ?_
  ·exact lE
  ·rintro⟨f,r0,r1,x0,x1,y0,y1⟩ ⟨hf,hS,hr0,hr1,heq⟩ R hR;simp only at hf hS hr0 hr1 heq
   cases f with
   |zero=>omega
   |succ f=>
    unfold Bz at heq
    by_cases hz:r1=0
    ·subst hz;rw[if_pos rfl]at heq;simp only[cX]at heq;obtain⟨rfl,rfl,rfl⟩:=heq
     by_cases hx:x0<0
     ·have hzs:zs x0=true:=by simp[zs,hx]
      simp only[Z,hzs,kY,kX]at ad f1 f2;simp only[Z,kY,kX]at sb;rw[if_pos hx,if_pos hx];clear hR hres hE hS;repeat' first|simp only[go_sem,seval,DN,Z,hzs,kY,kX]|refine cP d1 ?_|refine cP d2 ?_|refine cP f1 ?_|refine cP f2 ?_|refine cP ad ?_|refine cP sb ?_|refine sB ?_|(first|apply pX|apply bX)<;>intro hc|refine⟨oD,?_⟩|exact oD|fail
     ·have hzs:zs x0=false:=by simp[zs,hx]
      rw[if_neg hx,if_neg hx];clear hR hres hE hS;repeat' first|simp only[go_sem,seval,DN,Z,hzs]|refine sB ?_|(first|apply pX|apply bX)<;>intro hc|refine⟨oD,?_⟩|exact oD|fail
    ·rw[if_neg hz]at heq;have hpos:0<r1:=by omega
     have hst:=hS.step hpos;have hml:=aG r0 hpos;have hq:r0/r1≤r0:=dR _ _;have dv:=pR hr0 hr1 hpos;have b1:=hS.bx0;have b2:=hS.bx1;have b3:=hS.by0;have b4:=hS.by1;have b5:=hS.hx;have b6:=hS.hy;have c1:=Fe (q:=r0/r1) (x0:=x0) (x1:=x1) (by omega) (by omega) (by omega) (by have:=FO (r1:=r1) hpos (show x1.natAbs*r0≤b by omega);unfold c9;omega)
     have c2:=Fe (q:=r0/r1) (x0:=y0) (x1:=y1) (by omega) (by omega) (by omega) (by have:=FO (r1:=r1) hpos (show y1.natAbs*r0≤a by omega);unfold c9;omega)
     have en:=qz hz;have hgo:=hR (f,r1,r0%r1,x1,x0-((r0/r1:Nat):Int)*x1,y1,y0-((r0/r1:Nat):Int)*y1) ⟨by show r0%r1<f;omega,hst,hr1,by show r0%r1< _;omega,heq⟩ hml
     clear hR heq hst hS b1 b2 b3 b4 b5 b6 hres hE;generalize x0-((r0/r1:Nat):Int)*x1=u at*;generalize y0-((r0/r1:Nat):Int)*y1=v at*;repeat' first|simp only[go_sem,seval,en,Z,Z2,aN]|refine cP dv ?_|refine cV c1 ?_|refine cV c2 ?_|refine sB ?_|(first|apply pX|apply bX)<;>intro hc|refine⟨oD,?_⟩|exact oD|fail
     refine hgo _ ?_;exact lE
theorem pc {a m:Nat} (ha:a<18446744073709551616) (hm:m<18446744073709551616) (h0:0<m) (hg:Nat.gcd a m=1):aD Tryz.prog 125 [N a,N m] (.tup [N (eV a m),E 0]):=by
 have w1:=qT;have w2:=np;have hc:=fun nm=>QT nm (aP a) (aP m)
 rw[O8 ha hm h0]at hc;have hl:=aG a h0;have hd:=j8 ha hm h0;have hg':Nat.gcd (a%m) m=1:=by rw[←hg,←kD,jx]
 obtain⟨X,Y,h1,h3⟩:=Ba (a:=a%m) (b:=m) (by omega) hm h0
 obtain⟨h4,h5⟩:=h1 hg';rw[hg']at h3;have hX:X.natAbs%m=eV a m:=by
  rw[h5];obtain⟨g1,g2⟩:=(fA h0 hg').inv;exact(hG g1 (by rw[iV]at g2;exact g2)).symm
 have hr:aD Tryz.prog 162 [.s (zb X),N m] (N (eV a m)):=by
  have:=j8 h4 hm h0
  rwa[hX]at this
 clear h1 h4 h5 hX;refine eW Tryz.call125 Tryz.func125 ?_;repeat' first|simp only[go_sem,seval,Z,NS,dY,bne_self_eq_false,beq_self_eq_true]|(refine br (hc _) (by simp) ?_)|refine cP hd ?_|refine cP h3 ?_|refine cP hr ?_|refine sB ?_|(first|apply pX|apply bX)<;>intro hc|refine⟨oD,?_⟩|exact oD|fail
theorem kK (n1 n2 nm:Nat) (hne:n1≠n2) {a b m:Nat} (o:Bytes) (el el2:Option TypeId) (ha:a<18446744073709551616) (hb:b<18446744073709551616) (hm:m<18446744073709551616) (h0:0<m):ik Tryz.prog 127 nm [(n1,⟨0,[.v (N a)],false,el⟩),(n2,⟨0,[.v (N m), .v (.s o)],false,el2⟩)] [.v (N b), .p n1 0 0, .p n2 0 0] (.tup []) [(n1,some ⟨0,[.v (N (a*b%m))],false,el⟩)]:=by
 have hx:=nX ha hb hm h0;refine ik.w mixed Tryz.call127 Tryz.func127 rfl (iL.1 _ _ _ (by cbv)) (iL.2 _ _ (by cbv)) (obs:=[⟨0,[.v (N a)],false,el⟩,⟨0,[.v (N m), .v (.s o)],false,el2⟩]) (args:=[.v (N b), .p 0 0 0, .p 1 0 0]) (fs:=[some (some ⟨0,[.v (N (a*b%m))],false,el⟩),none]) (j:=none) (nw:=none) (v:= .tup []) (ns:=[n1,n2]) (obsA:=[⟨0,[.v (N a)],false,el⟩,⟨0,[.v (N m), .v (.s o)],false,el2⟩]) rfl ?_ (by simp) (by simp[hne]) rfl (by simp[aQ,ax.aI,AV.aI,AV.aI.renL]) (by simp[aQ,AV.aI,cf,hne,l7 hne]) (by simp[AV.aI,AV.aI.renL]) (by simp[eH,outs,ax.aI,AV.aI,AV.aI.renL])
 simp only[go_sem,seval];repeat' first|simp only[go_sem,seval,true_or,or_true,false_or,or_false,af,fU,dH,fG,eY,eZ,dJ,mR,nM,ft,fK,cJ,aE,AV.aI,AV.aI.renL,aA]|refine cP hx ?_|refine sB ?_|(first|apply pX|apply bX)<;>intro hc|refine⟨oD,?_⟩|exact oD|fail
 all_goals skip
theorem Hj {x:AV}:(List.replicate 1 [x]).flatten=[x]:=rfl
theorem yo {x:AV}:List.drop 1 [x]=[]:=rfl
theorem om {x:AV}:List.take 1 [x]=[x]:=rfl
theorem HP {x y:AV}:List.set [x] 0 y=[y]:=rfl
theorem O5 {n:Nat}:n/2^cd n=0:=by
 refine gn ?_;unfold cd;split
 ·rename_i h;rw[h];decide
 ·rename_i h;exact rp
theorem lT (x:PV) (l:List PV):mz (.v x::l.map .v)=some (x::l):=by
 have h: ∀l:List PV,mz (l.map .v)=some l:=by
  intro l
  induction l with
  |nil=>rfl
  |cons y l ih=>
   unfold mz at ih⊢;rw[ba,aQ,ih];rfl
 have:=h (x::l);exact this
end Go.Proofs.YtmobkhegihemeaaGreatDoor
namespace Go.Proofs.YtmobkhegihemeaaGreatDoor
open Go Go.Dom Go.Num
set_option maxRecDepth 100000
set_option maxHeartbeats 16000000
theorem Vo {a b:Nat} (h:a<b):decide (a6 a b≥0)=false:=decide_eq_false (fun g=>by have:=jJ.1 g;omega)
theorem Vp {a b:Nat} (h:b≤a):decide (a6 a b≥0)=true:=decide_eq_true (jJ.2 h)
theorem WZ (a b:Nat):decide (a6 a b<0)=decide (a<b):=by rw[dx];simp only[decide_eq_true_eq];exact fS
theorem HI (m o:Bytes):aD Tryz.prog 154 [G m o] (.b (aa m&&aa o)):=by
 have v1:=aO m;have v2:=aO o;refine eW Tryz.call154 Tryz.func154 ?_;repeat' first|simp only[go_sem,seval]|refine cP v1 ?_|refine cP v2 ?_|refine sB ?_|(first|apply pX|apply bX)<;>intro hc|refine⟨oD,?_⟩|exact oD|fail
 all_goals simp_all
theorem KO {m:Bytes} (lm:m.length≤8) (o x:Bytes):aD Tryz.prog 102 [G m o, .s x] (.b (lO m o x)):=by
 have hf:=HI m o;have vx:=aO x
 by_cases h:aa m=true∧aa o=true∧aa x=true∧o≠[]∧x≠[]
 ·obtain⟨v1,v2,v3,h4,h5⟩:=h;have e4:(o==([]:Bytes))=false:=by simpa using h4
  have e5:(x==([]:Bytes))=false:=by simpa using h5
  have hn:=ep lm;have lx:=cI v3;have hor:=kI (bE v3) (bE v1) (by omega) (by omega)
  rw[v1,v2]at hf;rw[v3]at vx;have hx0:=qA (bE v3) h5
  by_cases h6:num x<num m
  ·have hE:=T8 (a:=num x) (m:=num m) (e:=o) (by omega) v2 hn (by omega)
   rw[fq v3,fq v1]at hE;have hlt: ∀ _:True,decide (a6 (num x) (num m)≥0)=false:=fun _=>Vo (by omega)
   have e:lO m o x=decide (num x^num o%num m=1):=by simp[lO,v1,v2,v3,e4,e5,h6,bA (show 1<num m by omega)]
   rw[e];generalize num x^num o%num m=z1 at*;refine eW Tryz.call102 Tryz.func102 ?_;repeat' first|simp only[go_sem,seval,e4,e5,hlt trivial,NS]|refine cP hf ?_|refine cP vx ?_|refine cP hor ?_|refine cP hE ?_|refine sB ?_|(first|apply pX|apply bX)<;>intro hc|refine⟨oD,?_⟩|exact oD|fail
  ·have hlt: ∀ _:True,decide (a6 (num x) (num m)≥0)=true:=fun _=>Vp (by omega)
   have e:lO m o x=false:=by simp[lO,h6]
   rw[e];refine eW Tryz.call102 Tryz.func102 ?_;repeat' first|simp only[go_sem,seval,e4,e5,hlt trivial]|refine cP hf ?_|refine cP vx ?_|refine cP hor ?_|refine sB ?_|(first|apply pX|apply bX)<;>intro hc|refine⟨oD,?_⟩|exact oD|fail
 ·have e:lO m o x=false:=by
   rw[fj];intro g;simp[lO]at g;exact h ⟨g.1.1.1.1.1.1,g.1.1.1.1.1.2,g.1.1.1.1.2,g.1.1.1.2,g.1.1.2⟩
  rw[e]
  by_cases hmo:(aa m&&aa o)=true
  case neg=>
   have hmo:(aa m&&aa o)=false:=by simpa using hmo
   rw[hmo]at hf;refine eW Tryz.call102 Tryz.func102 ?_;repeat' first|simp only[go_sem,seval]|refine cP hf ?_|refine cP vx ?_|refine sB ?_|(first|apply pX|apply bX)<;>intro hc|refine⟨oD,?_⟩|exact oD|fail
  rw[hmo]at hf
  by_cases v3:aa x=true
  case neg=>
   have v3:aa x=false:=by simpa using v3
   rw[v3]at vx;refine eW Tryz.call102 Tryz.func102 ?_;repeat' first|simp only[go_sem,seval]|refine cP hf ?_|refine cP vx ?_|refine sB ?_|(first|apply pX|apply bX)<;>intro hc|refine⟨oD,?_⟩|exact oD|fail
  rw[v3]at vx
  by_cases h4:o=[]
  ·subst h4;refine eW Tryz.call102 Tryz.func102 ?_;repeat' first|simp only[go_sem,seval,nn]|refine cP hf ?_|refine cP vx ?_|refine sB ?_|(first|apply pX|apply bX)<;>intro hc|refine⟨oD,?_⟩|exact oD|fail
  ·have e4:(o==([]:Bytes))=false:=by simpa using h4
   by_cases h5:x=[]
   ·subst h5;refine eW Tryz.call102 Tryz.func102 ?_;repeat' first|simp only[go_sem,seval,nn,e4]|refine cP hf ?_|refine cP vx ?_|refine sB ?_|(first|apply pX|apply bX)<;>intro hc|refine⟨oD,?_⟩|exact oD|fail
   ·simp only[aZ]at hmo;exact absurd ⟨hmo.1,hmo.2,v3,h4,h5⟩ h
end Go.Proofs.YtmobkhegihemeaaGreatDoor
