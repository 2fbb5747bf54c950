/-
  Part of the proof, part Z28. Own work.
-/
import Derived.Test.YtmobkhegihemeaaGreatDoorZ27
set_option linter.all false
namespace Go.Proofs.YtmobkhegihemeaaGreatDoor
open Go Go.Dom Go.Num
set_option maxRecDepth 100000
set_option maxHeartbeats 4000000
def MD (m:Bytes):Int:=if !aa m then 3 else if eA m []then 0 else 13
theorem yK (m:Bytes):aA Tryz.prog 73 [G m []] (E (MD m)):=by
 have hv:=aG m;have hv0:=aG [];rw[show aa []=true from rfl]at hv0
 by_cases h:aa m=true
 ·have hb:=ri h 0 (by decide)
  have hcm:=ie m [8];rw[h]at hv;rw[h,show aa [8]=true from rfl,show num [8]=8 from rfl]at hcm
  have he:aO (num m) 8≤0↔ ¬8<num m:=by unfold aO;split<;>(try split)<;>omega
  have e:MD m=if(num m).testBit 0&&decide (8<num m)then 0 else 13:=by simp[MD,eA,h]
  rw[e];clear e;generalize (num m).testBit 0=tb at*;refine eW Tryz.call73 Tryz.func73 ?_;repeat' first|simp only[go_sem,seval,nn]|refine cP hv ?_|refine cP hv0 ?_|refine cP hb ?_|refine cP So ?_|refine cP hcm ?_|refine sB ?_|(first|apply pX|apply bX)<;>intro hc|refine⟨oD,?_⟩|exact oD|fail
  all_goals simp_all
 ·have h:aa m=false:=by simpa using h
  rw[h]at hv;have e:MD m=3:=by simp[MD,h]
  rw[e];refine eW Tryz.call73 Tryz.func73 ?_;repeat' first|simp only[go_sem,seval]|refine cP hv ?_|refine sB ?_|(first|apply pX|apply bX)<;>intro hc|refine⟨oD,?_⟩|exact oD|fail
theorem EX {m:Bytes} (lm:m.length≤8) (x:Bytes):aA Tryz.prog 79 [G m [], .s x] (.b (qN m [] x)):=by
 have h:=HW lm [] x;refine eW Tryz.call79 Tryz.func79 ?_;repeat' first|simp only[go_sem,seval,nn]|refine cP h ?_|refine sB ?_|(first|apply pX|apply bX)<;>intro hc|refine⟨oD,?_⟩|exact oD|fail
end Go.Proofs.YtmobkhegihemeaaGreatDoor
namespace Go.Proofs.YtmobkhegihemeaaGreatDoor
open Go Go.Dom Go.Num
set_option maxRecDepth 100000
set_option maxHeartbeats 8000000
structure Ox where
 (c sl mm mo mg mh wm wo wg wh se at' ha el es bl ma:Bytes)
def Ox.pv (p:Ox):PV:= .agg [.s p.c, .s p.sl, .s p.mm, .s p.mo, .s p.mg, .s p.mh, .s p.wm, .s p.wo, .s p.wg, .s p.wh, .s p.se, .s p.at', .s p.ha, .s p.el, .s p.es, .s p.bl, .s p.ma]
def Ox.Oc (p:Ox):List Bytes:=[p.c,p.sl,p.se,p.at',p.ha,p.el,p.es,p.bl,p.ma,p.mm,p.mo,p.mg,p.mh,p.wm,p.wo,p.wg,p.wh]
theorem Gm {x:Bytes} (h:aa x=true):aA Tryz.prog 30 [.s x, .s [2]] (E (aO (num x) 2)):=by
 have:=ie x [2]
 rwa[h,show aa [2]=true from rfl,show num [2]=2 from rfl]at this
theorem mc {x y:Bytes} (h:aa x=true) (g:aa y=true):aA Tryz.prog 30 [.s x, .s y] (E (aO (num x) (num y))):=by
 have:=ie x y
 rwa[h,g]at this
end Go.Proofs.YtmobkhegihemeaaGreatDoor
namespace Go.Proofs.YtmobkhegihemeaaGreatDoor
open Go Go.Dom Go.RowKit Go.Shelf
set_option maxRecDepth 100000
set_option maxHeartbeats 4000000
structure Key where
 (name m o z s:Bytes)
 r:List Bytes
 (u h:Bytes)
def Key.pv (k:Key):PV:= .agg [.s k.name, .s k.m, .s k.o, .s k.z, .s k.s, .sl (k.r.map .s), .s k.u, .s k.h]
end Go.Proofs.YtmobkhegihemeaaGreatDoor
namespace Go.Proofs.YtmobkhegihemeaaGreatDoor
open Go Go.Dom Go.Num
set_option maxRecDepth 100000
set_option maxHeartbeats 8000000
def yH (i:Nat) (c:Int):Bool:= !((decide (c≥97)&&decide (c≤122))||(decide (c≥65)&&decide (c≤90)))&&(((i:Int)==0)||((c !=95)&&(decide (c<48)||decide (c>57))))
def Mt (n:Bytes) (i:Nat):Int:=((n.getD i 0).toNat:Int)
def jN (n:Bytes):Bool:=(List.range n.length).all (fun i=> !yH i (Mt n i))&& !(n==[])&&decide (n.length≤32)

theorem eN {l:List Bytes} {x:Nat} (h:x<l.length):(l.map PV.s).getD x .fn0= .s (l.getD x []):=by
 simp[List.getD_eq_getElem?_getD,h]
theorem tY {l:List Bytes} {y:PV} (h:y∈l.map PV.s):y.cells.length=1:=by
 obtain⟨c,_,rfl⟩:=List.mem_map.1 h;rfl
def bU {α:Type} (p:α→Bool):Nat→List α→Int
 | _,[]=> -1
 |k,x::r=>if p x then(k:Int)else bU p (k+1) r
theorem eD {α:Type} {p:α→Bool}: ∀{l:List α} {k:Nat},0≤bU p k l↔l.any p=true
 |[],k=>by simp[bU]
 |x::r,k=>by
  simp only[bU,List.any_cons];split
  ·rename_i h;simp[h]
  ·rename_i h;simp only[Bool.not_eq_true]at h;rw[eD,h,Bool.false_or]
theorem drop_cons {l:List Bytes} {i:Nat} (h:i<l.length):l.drop i=l.getD i []::l.drop (i+1):=by
 rw[List.drop_eq_getElem_cons h,List.getD_eq_getElem?_getD,List.getElem?_eq_getElem h];rfl
theorem sD (l:List Bytes) (f:FuncId) (p:Bytes→Bool) (hl:l.length<4611686018427387904) (h: ∀x,aA Tryz.prog f [.s x] (.b (p x))):aA Tryz.prog 312 [.sl (l.map .s), .fn (.func f)] (E (bU p 0 l)):=by
 refine eW Tryz.call312 Tryz.func312 ?_;repeat' first|simp only[go_sem,seval]|refine sB ?_|(first|apply pX|apply bX)<;>intro hc|refine⟨oD,?_⟩|exact oD|fail
 refine ai (α:=Nat) (fun i=>l.length-i) (fun i=>⟨[(0, .v (.sl (l.map .s))),(1, .v (.fn (.func f))),(7, .v (.i .i64 l.length)),(8, .v (.i .i64 (i:Nat)))],[],_⟩) (fun i=>i≤l.length∧bU p i (l.drop i)=bU p 0 l) 0 (fun _=>Nat.le_refl _) ⟨Nat.zero_le _,rfl⟩ ?_ ?_
 ·exact lE
 ·rintro i ⟨hi,hx⟩ R hR;rw[←hx]
  by_cases hlt:i<l.length
  ·have e1:=eN hlt;have hf:=h (l.getD i []);have hgo:=hR (i+1);rw[←hx,drop_cons hlt]at hgo;rw[drop_cons hlt];simp only[bU]at hgo⊢;clear hx hR h;generalize p (l.getD i [])=b at*;repeat' first|simp only[go_sem,seval,e1]|refine cP hf ?_|refine sB ?_|(first|apply pX|apply bX)<;>intro hc|refine⟨oD,?_⟩|exact oD|fail
   all_goals first
    |(refine hgo ⟨by omega,by simp_all⟩ (by omega) _ ?_;(refine AS.Le.of (by first|decide|omega) ?_ ?_<;>simp[bz,bA,aD,ak,AV.bd,AV.bd.bdL,u8,af,ah,aj]);done)
    |(simp_all;done)
    |skip
  ·obtain rfl:i=l.length:=by omega
   rw[List.drop_length];repeat' first|simp only[go_sem,seval]|refine sB ?_|(first|apply pX|apply bX)<;>intro hc|refine⟨oD,?_⟩|exact oD|fail
   all_goals simp[bU]
theorem nF (l:List Bytes) (f:FuncId) (p:Bytes→Bool) (hl:l.length<4611686018427387904) (h: ∀x,aA Tryz.prog f [.s x] (.b (p x))):aA Tryz.prog 245 [.sl (l.map .s), .fn (.func f)] (.b (l.any p)):=by
 have hi:=sD l f p hl h;have e:decide (bU p 0 l≥0)=l.any p:=by
  rw[Bool.eq_iff_iff,decide_eq_true_iff];exact eD
 refine eW Tryz.call245 Tryz.func245 ?_;repeat' first|simp only[go_sem,seval,e]|refine cP hi ?_|refine sB ?_|(first|apply pX|apply bX)<;>intro hc|refine⟨oD,?_⟩|exact oD|fail
abbrev T (vs:List Bytes) (sd:Bytes) (at':Int):PV:= .agg [.sl (vs.map .s), .s sd, .i .i64 at']
theorem Gh (x:Bytes):aA Tryz.prog 246 [.s x] (.b (!aa x)):=by
 have hv:=aG x;refine eW Tryz.call246 Tryz.func246 ?_;repeat' first|simp only[go_sem,seval]|refine cP hv ?_|refine sB ?_|(first|apply pX|apply bX)<;>intro hc|refine⟨oD,?_⟩|exact oD|fail
def dc (vs:List Bytes) (at':Int):Bool:=decide (at'≥0)&&decide (at'≤2147483647)&& !(vs.any fun x=> !aa x)
theorem u5 (vs:List Bytes) (sd:Bytes) (at':Int) (hl:vs.length<4611686018427387904):aA Tryz.prog 165 [T vs sd at'] (.b (dc vs at')):=by
 have hcf:=nF vs _ (fun x=> !aa x) hl Gh
 unfold dc;generalize (vs.any fun x=> !aa x)=b at*
 refine eW Tryz.call165 Tryz.func165 ?_;repeat' first|simp only[go_sem,seval]|refine cP hcf ?_|refine sB ?_|(first|apply pX|apply bX)<;>intro hc|refine⟨oD,?_⟩|exact oD|fail
 all_goals simp_all
 all_goals (intros;omega)
def oj (vs:List Bytes) (at':Int) (n:Bytes):Int:=if !(dc vs at'&&aa n)then 3 else if n=[]then 11 else 0
theorem lG (vs:List Bytes) (sd:Bytes) (at':Int) (n:Bytes) (hl:vs.length<4611686018427387904):aA Tryz.prog 110 [T vs sd at', .s n] (E (oj vs at' n)):=by
 have hg:=u5 vs sd at' hl;have hv:=aG n;unfold oj;generalize dc vs at'=b at*;generalize aa n=b2 at*;refine eW Tryz.call110 Tryz.func110 ?_;repeat' first|simp only[go_sem,seval]|refine cP hg ?_|refine cP hv ?_|refine sB ?_|(first|apply pX|apply bX)<;>intro hc|refine⟨oD,?_⟩|exact oD|fail
 all_goals simp_all
def Hj (vs:List Bytes) (sd:Bytes) (i:Nat) (n:Bytes):PV:=
 if num n≤num (vs.getD i [])then .tup [.s [],T [] [] 0,E 2]else .tup [.s (vs.getD i []),T vs sd (i+1:Nat),E 0]
theorem pP (l:List Bytes):(l.map PV.s).flatMap PV.cells=l.map PV.s:=by
 induction l with
 |nil=>rfl
 |cons x r ih=>simp_all[PV.cells]
theorem DO {l:List Bytes} {y:AV} (h:y∈List.map AV.v (List.flatMap PV.cells (l.map PV.s))):y.one=true:=by
 rw[pP,List.map_map]at h;obtain⟨c,_,rfl⟩:=List.mem_map.1 h;rfl
theorem ig (n:Nat) (x:AV):(List.replicate n [x]).flatten.length=n:=by
 induction n with
 |zero=>rfl
 |succ n ih=>rw[List.replicate_succ,List.flatten_cons,List.length_append,ih,List.length_singleton];omega
theorem Ih (vs:List Bytes):List.drop vs.length (List.replicate vs.length [AV.v (PV.s [])]).flatten=[]∧(List.map AV.v (List.map PV.s vs)).all AV.one=true∧List.take vs.length (List.map AV.v (List.map PV.s vs))=List.map AV.v (List.map PV.s vs)∧chunk 1 vs.length (List.map PV.s vs)=List.map PV.s vs:=by
 refine⟨?_,?_,?_,?_⟩
 ·rw[List.drop_of_length_le (by rw[ig];exact Nat.le_refl _)]
 ·simp[List.all_eq_true,AV.one,PV.one]
 ·rw[List.take_of_length_le (by simp)]
 ·have:=nG (List.map PV.s vs);rwa[List.length_map]at this
theorem xZ {vs:List Bytes} {i:Nat} (hi:i<vs.length):vs.getD i []∈vs:=by
 rw[List.getD_eq_getElem?_getD,List.getElem?_eq_getElem hi];exact List.getElem_mem hi
theorem JN {vs:List Bytes} (sd:Bytes) {i:Nat} {n:Bytes} (hv:vs.all aa=true) (hn:aa n=true) (hi:i<vs.length) (hl:vs.length<1000000):aA Tryz.prog 111 [T vs sd i, .s n] (Hj vs sd i n):=by
 have hx:aa (vs.getD i [])=true:=List.all_eq_true.1 hv _ (xZ hi);have hcm:=ie (vs.getD i []) n;rw[hx,hn]at hcm;simp only[Bool.and_self,if_true]at hcm;have e1:=eN hi;have e2:(aO (num (vs.getD i [])) (num n)≥0)=(num n≤num (vs.getD i [])):=pO _ _;unfold Hj;generalize aO (num (vs.getD i [])) (num n)=cm at*
 by_cases hle:num n≤num (vs.getD i [])
 ·rw[if_pos hle];have e3:cm≥0:=by rw[e2];exact hle
  refine eW Tryz.call111 Tryz.func111 ?_;repeat' first|simp only[go_sem,seval,e1]|refine cP hcm ?_|refine sB ?_|(first|apply pX|apply bX)<;>intro hc|refine⟨oD,?_⟩|exact oD|fail
  rfl
 ·rw[if_neg hle];have e3: ¬cm≥0:=by rw[e2];exact hle
  refine eW Tryz.call111 Tryz.func111 ?_;repeat' first|simp only[go_sem,seval,e1]|refine cP hcm ?_|refine sB ?_|(first|apply pX|apply bX)<;>intro hc|refine⟨oD,?_⟩|exact oD|fail
  refine⟨⟨fun x hx=>tY hx,fun y hy=>DO hy,by rw[ig];exact Nat.le_refl _⟩,?_⟩
  obtain⟨r1,r2,r3,r4⟩:=Ih vs;repeat' first|simp only[go_sem,seval,e1,ig,pP,r1,r2,r3,r4,dA]|refine sB ?_|(first|apply pX|apply bX)<;>intro hc|refine⟨oD,?_⟩|exact oD|fail
  simp

def Ox.KX (p:Ox):List Bytes:=[p.c,p.sl,p.mm,p.mo,p.mg,p.mh,p.wm,p.wo,p.wg,p.wh,p.se,p.at',p.ha,p.el,p.es,p.bl,p.ma]
theorem Ie {a b:Nat} (h:a*b<bR) (ha:a<bR) (hb:b<bR):aA Tryz.prog 326 [N a,N b] (.tup [N (a*b),E 0]):=by
 have:=Mi (aI a) (aI b);simp only[oS,vB ha,vB hb,Bool.and_self,if_true,aE,h]at this;exact this
theorem Jb {a b:Nat} (h:a+b<bR):aA Tryz.prog 95 [N a,N b] (.tup [N (a+b),E 0]):=by
 have:=N2 (aI a) (aI b);simp only[rX,vB (show a<bR by omega),vB (show b<bR by omega),Bool.and_self,if_true,aE,h]at this
 exact this
theorem oV {a b:Nat} (h:b≤a) (ha:a<bR):aA Tryz.prog 94 [N a,N b] (.tup [N (a-b),E 0]):=by
 have:=FZ (aI a) (aI b);simp only[nK,vB ha,vB (show b<bR by omega),Bool.and_self,if_true,aE,h]at this
 exact this
theorem mI {a b:Nat} (ha:a<bR) (hb:b<bR):aA Tryz.prog 30 [N a,N b] (E (aO a b)):=by
 have:=ie (aI a) (aI b);simp only[vB ha,vB hb,Bool.and_self,if_true,aE]at this;exact this
theorem ve {x:Int} (h:x.natAbs<bR):aA Tryz.prog 171 [Z x] (.b true):=by
 have:=dI (zs x) (zb x)
 rwa[Mp h]at this
theorem Ev {x y:Int} (hx:x.natAbs<bR) (hy:y.natAbs<bR):aA Tryz.prog 336 [Z x,Z y] (.b true):=by
 have v1:=ve hx;have v2:=ve hy;refine eW Tryz.call336 Tryz.func336 ?_;repeat' first|simp only[go_sem,seval,Z]|refine cP v1 ?_|refine cP v2 ?_|refine sB ?_|(first|apply pX|apply bX)<;>intro hc|refine⟨oD,?_⟩|exact oD|fail
theorem qy (b:Bool) (n:Nat) {z:Int} (h:(if b then-(n:Int)else n)=z):aA Tryz.prog 99 [.b b,N n] (Z z):=by
 have:=pj b (aI n);rw[St,h]at this;exact this
theorem tC {n:Nat} (h:n<bR):aA Tryz.prog 47 [N n] (Z n):=kz (vB h)
theorem N9:aA Tryz.prog 70 [E 1] (Z 1):=by
 have h1:=gi 1 (by decide)
 have hm:=qy false 1 rfl;refine eW Tryz.call70 Tryz.func70 ?_;repeat' first|simp only[go_sem,seval,Z]|refine cP h1 ?_|refine cP hm ?_|refine sB ?_|(first|apply pX|apply bX)<;>intro hc|refine⟨oD,?_⟩|exact oD|fail
theorem RA:aA Tryz.prog 70 [E 0] (Z 0):=by
 have h1:=gi 0 (by decide)
 have hm:=qy false 0 rfl;refine eW Tryz.call70 Tryz.func70 ?_;repeat' first|simp only[go_sem,seval,Z]|refine cP h1 ?_|refine cP hm ?_|refine sB ?_|(first|apply pX|apply bX)<;>intro hc|refine⟨oD,?_⟩|exact oD|fail
theorem Rf {y:Int} (h:y.natAbs<bR):aA Tryz.prog 352 [Z y] (Z (-y)):=by
 have hv:=ve h;have hm:=qy (!zs y) y.natAbs (PK y);refine eW Tryz.call352 Tryz.func352 ?_;repeat' first|simp only[go_sem,seval,Z]|refine cP hv ?_|refine cP hm ?_|refine sB ?_|(first|apply pX|apply bX)<;>intro hc|refine⟨oD,?_⟩|exact oD|fail
theorem FY {x y:Int} (hx:x.natAbs<bR) (hy:y.natAbs<bR) (h:x.natAbs*y.natAbs<bR):aA Tryz.prog 280 [Z x,Z y] (.tup [Z (x*y),E 0]):=by
 have hb:=Ev hx hy;have hm:=Ie h hx hy;have hk:=qy (zs x !=zs y) (x.natAbs*y.natAbs) (Qb x y);refine eW Tryz.call280 Tryz.func280 ?_;repeat' first|simp only[go_sem,seval,Z]|refine cP hb ?_|refine cP hm ?_|refine cP hk ?_|refine sB ?_|(first|apply pX|apply bX)<;>intro hc|refine⟨oD,?_⟩|exact oD|fail
theorem FQ {x y:Int} (hx:x.natAbs<bL) (hy:y.natAbs<bL):aA Tryz.prog 280 [Z x,Z y] (.tup [Z (x*y),E 0]):=
 have hw:=vL
 FY (by omega) (by omega) (Nat.lt_of_lt_of_le (Nat.mul_lt_mul'' hx hy) xX)
theorem x6 {x y:Int} (hlim:x.natAbs+y.natAbs<bR):aA Tryz.prog 282 [Z x,Z y] (.tup [Z (x+y),E 0]):=by
 have hb0:=Ev (x:=x) (y:=y) (by omega) (by omega)
 by_cases hs:zs x=zs y
 ·have ha:=Jb hlim;have hk:=qy (zs x) (x.natAbs+y.natAbs) (KY hs);have hb: ∀ _:True,(zs x==zs y)=true:=fun _=>by rw[hs];simp
  clear hs hlim;refine eW Tryz.call282 Tryz.func282 ?_;repeat' first|simp only[go_sem,seval,Z,hb trivial]|refine cP hb0 ?_|refine cP ha ?_|refine cP hk ?_|refine sB ?_|(first|apply pX|apply bX)<;>intro hc|refine⟨oD,?_⟩|exact oD|fail
 have hb: ∀ _:True,(zs x==zs y)=false:=fun _=>by simpa using hs
 have hcm:=mI (a:=x.natAbs) (b:=y.natAbs) (by omega) (by omega)
 by_cases hl:y.natAbs≤x.natAbs
 ·have hd:=oV hl (by omega)
  have hk:=qy (zs x) (x.natAbs-y.natAbs) (E8 hs hl);have hg: ∀ _:True,decide (aO x.natAbs y.natAbs<0)=false:=fun _=>decide_eq_false (fun h=>by rw[dL]at h;omega)
  generalize aO x.natAbs y.natAbs=cm at*;clear hs hlim;refine eW Tryz.call282 Tryz.func282 ?_;repeat' first|simp only[go_sem,seval,Z,hb trivial,hg trivial]|refine cP hb0 ?_|refine cP hcm ?_|refine cP hd ?_|refine cP hk ?_|refine sB ?_|(first|apply pX|apply bX)<;>intro hc|refine⟨oD,?_⟩|exact oD|fail
 ·have hd:=oV (a:=y.natAbs) (b:=x.natAbs) (by omega) (by omega)
  have hk:=qy (zs y) (y.natAbs-x.natAbs) (KE hs (by omega))
  have hg: ∀ _:True,decide (aO x.natAbs y.natAbs<0)=true:=fun _=>decide_eq_true (by rw[dL];omega)
  generalize aO x.natAbs y.natAbs=cm at*;clear hs hlim;refine eW Tryz.call282 Tryz.func282 ?_;repeat' first|simp only[go_sem,seval,Z,hb trivial,hg trivial]|refine cP hb0 ?_|refine cP hcm ?_|refine cP hd ?_|refine cP hk ?_|refine sB ?_|(first|apply pX|apply bX)<;>intro hc|refine⟨oD,?_⟩|exact oD|fail
theorem OP {x y:Int} (hx:x.natAbs<bL) (hy:y.natAbs<bL):aA Tryz.prog 282 [Z x,Z y] (.tup [Z (x+y),E 0]):=
 x6 (Nat.lt_of_lt_of_le (show _<bL*bL by unfold bL at*;omega) xX)
theorem Lb {x y:Int} (hlim:x.natAbs+y.natAbs<bR):aA Tryz.prog 298 [Z x,Z y] (.tup [Z (x-y),E 0]):=by
 have hb:=Ev (x:=x) (y:=y) (by omega) (by omega)
 have hn:=Rf (y:=y) (by omega)
 have ha:=x6 (x:=x) (y:= -y) (by omega)
 rw[←Int.sub_eq_add_neg]at ha;refine eW Tryz.call298 Tryz.func298 ?_;repeat' first|simp only[go_sem,seval,Z]|refine cP hb ?_|refine cP hn ?_|refine cP ha ?_|refine sB ?_|(first|apply pX|apply bX)<;>intro hc|refine⟨oD,?_⟩|exact oD|fail
theorem KF {x y:Int} (hx:x.natAbs<bL) (hy:y.natAbs<bL):aA Tryz.prog 298 [Z x,Z y] (.tup [Z (x-y),E 0]):=
 Lb (Nat.lt_of_lt_of_le (show _<bL*bL by unfold bL at*;omega) xX)
theorem mO:18446744073709551616≤bL:=by decide
theorem js:18446744073709551616≤bR:=by unfold bR;decide+kernel
abbrev Z2 (x y:Int):PV:= .agg [.b (zs x), .s (zb x), .b (zs y), .s (zb y)]
theorem AL {q:Nat} {x0 x1:Int} (hq:q<18446744073709551616) (h0:x0.natAbs<18446744073709551616+1) (h1:x1.natAbs<18446744073709551616+1) (hp:(((q:Nat):Int)*x1).natAbs<bL):aA Tryz.prog 297 [Z2 x0 x1, .pt (.agg [N q]) 0] (Z2 x1 (x0-(q:Nat)*x1)):=by
 have w1:=mO;have w2:=js;have hf:=tC (n:=q) (by omega)
 have hm:=FQ (x:=(q:Int)) (y:=x1) (by rw[Int.natAbs_natCast];omega) (by unfold bL;omega)
 have hs:=KF (x:=x0) (y:=(q:Int)*x1) (by unfold bL;omega) hp
 generalize (q:Int)*x1=v at*;generalize x0-v=u at*;refine eW Tryz.call297 Tryz.func297 ?_;repeat' first|simp only[go_sem,seval,Z,gW,gV]|refine cP hf ?_|refine cP hm ?_|refine cP hs ?_|refine sB ?_|(first|apply pX|apply bX)<;>intro hc|refine⟨oD,?_⟩|exact oD|fail
theorem AW {r0 r1 B:Nat} {x1:Int} (h0:0<r1) (h:x1.natAbs*r0≤B):((((r0/r1:Nat):Int))*x1).natAbs≤B:=by
 rw[Int.natAbs_mul,Int.natAbs_natCast];have h1:r0/r1≤r0:=Nat.div_le_self _ _;have:=Nat.mul_le_mul_left x1.natAbs h1;rw[Nat.mul_comm]at this;omega
theorem wV {a b:Nat} (ha:a<18446744073709551616) (hb:b<18446744073709551616) (h0:0<b): ∃X Y:Int,(Nat.gcd a b=1→X.natAbs<18446744073709551616∧X.natAbs%b=cA a b)∧aA Tryz.prog 208 [N a,N b] (.tup [N (Nat.gcd a b),Z X,Z Y,E 0]):=by
 have w1:=mO;have w2:=js;obtain⟨x',y',hE⟩:=yf (a:=a) (b:=b) (f:=b+1) (by omega) (lO.start h0)
 obtain⟨res,hres⟩: ∃res,res=yq (b+1) a b 1 0 0 1:=⟨_,rfl⟩;rw[←hres]at hE;obtain⟨g,X0,Y0⟩:=res;simp only at hE;have hg:=hE.fin;have hgp:0<g:=by rw[hg];exact Nat.gcd_pos_of_pos_right _ h0
 have bx:=hE.bx0;have by':=hE.by0
 have hm1:b/g≤b:=Nat.div_le_self _ _;have hk1:a/g≤a:=Nat.div_le_self _ _;have v1:=aG (aI a);have v2:=aG (aI b);rw[vB (show a<bR by omega)]at v1
 rw[vB (show b<bR by omega)]at v2
 have e0:(aI b==([]:Bytes))=false:=lU (by omega)
 have d1:=lZ (a:=b) (b:=g) hb (by have:g≤b:=(by rw[hg];exact Nat.gcd_le_right _ h0);omega) hgp
 have d2:=lZ (a:=a) (b:=g) ha (by have:g≤b:=(by rw[hg];exact Nat.gcd_le_right _ h0);omega) hgp
 have f1:=tC (n:=b/g) (by omega)
 have f2:=tC (n:=a/g) (by omega)
 have ad:=OP (x:=X0) (y:=((b/g:Nat):Int)) (by unfold bL;omega) (by rw[Int.natAbs_natCast];unfold bL;omega)
 have sb:=KF (x:=Y0) (y:=((a/g:Nat):Int)) (by unfold bL;omega) (by rw[Int.natAbs_natCast];unfold bL;omega)
 have o1:=N9;have o0:=RA;refine⟨if X0<0 then X0+((b/g:Nat):Int)else X0,if X0<0 then Y0-((a/g:Nat):Int)else Y0,?_,?_⟩
 ·intro h1;have g1:g=1:=by rw[hg];exact h1
  subst g1;obtain⟨k1,k3,k2⟩:=hE.inv h0 _ rfl;rw[Nat.div_one];exact⟨by omega,k2⟩
 ·rw[←hg];refine eW Tryz.call208 Tryz.func208 ?_;simp only[go_sem,seval,Z];repeat' first|simp only[go_sem,seval,e0,Z]|refine cP v1 ?_|refine cP v2 ?_|refine cP o1 ?_|refine cP o0 ?_|refine sB ?_|(first|apply pX|apply bX)<;>intro hc|refine⟨oD,?_⟩|exact oD|fail
  refine ai (α:=Nat×Nat×Nat×Int×Int×Int×Int) (fun s=>s.2.2.1) (fun s=>⟨[(0, .v (N a)),(1, .v (N b)),(5, .p 1001 0 0),(6, .p 1002 0 0),(8, .p 1017 0 0),(9, .p 1025 0 0),(10, .p 1026 0 0)],[(1001,⟨0,[.v (.b false), .v (.s [])],false,some 49⟩),(1002,⟨0,[.v (.b false), .v (.s [])],false,some 49⟩),(1017,⟨0,[.v (N s.2.1), .v (N s.2.2.1)],false,some 343⟩),(1025,⟨0,[.v (.b (zs s.2.2.2.1)), .v (.s (zb s.2.2.2.1)), .v (.b (zs s.2.2.2.2.1)), .v (.s (zb s.2.2.2.2.1))],false,some 344⟩),(1026,⟨0,[.v (.b (zs s.2.2.2.2.2.1)), .v (.s (zb s.2.2.2.2.2.1)), .v (.b (zs s.2.2.2.2.2.2)), .v (.s (zb s.2.2.2.2.2.2))],false,some 344⟩)],_⟩) (fun s=>s.2.2.1<s.1∧lO a b s.2.1 s.2.2.1 s.2.2.2.1 s.2.2.2.2.1 s.2.2.2.2.2.1 s.2.2.2.2.2.2∧s.2.1<18446744073709551616∧s.2.2.1<18446744073709551616∧yq s.1 s.2.1 s.2.2.1 s.2.2.2.1 s.2.2.2.2.1 s.2.2.2.2.2.1 s.2.2.2.2.2.2=(g,X0,Y0)) (b+1,a,b,1,0,0,1) (fun _=>Nat.le_refl _) ⟨by show b<b+1;omega,lO.start h0,ha,hb,hres.symm⟩ ?_ ?_
  ·exact lE
  ·rintro⟨f,r0,r1,x0,x1,y0,y1⟩ ⟨hf,hS,hr0,hr1,heq⟩ R hR;simp only at hf hS hr0 hr1 heq
   cases f with
   |zero=>omega
   |succ f=>
    unfold yq at heq
    by_cases hz:r1=0
    ·subst hz;rw[if_pos rfl]at heq;simp only[Prod.mk.injEq]at heq;obtain⟨rfl,rfl,rfl⟩:=heq
     by_cases hx:x0<0
     ·have hzs:zs x0=true:=by simp[zs,hx]
      simp only[Z,hzs,gW,gV]at ad f1 f2;simp only[Z,gW,gV]at sb;rw[if_pos hx,if_pos hx];clear hR hres hE hS;repeat' first|simp only[go_sem,seval,yU,Z,hzs,gW,gV]|refine cP d1 ?_|refine cP d2 ?_|refine cP f1 ?_|refine cP f2 ?_|refine cP ad ?_|refine cP sb ?_|refine sB ?_|(first|apply pX|apply bX)<;>intro hc|refine⟨oD,?_⟩|exact oD|fail
     ·have hzs:zs x0=false:=by simp[zs,hx]
      rw[if_neg hx,if_neg hx];clear hR hres hE hS;repeat' first|simp only[go_sem,seval,yU,Z,hzs]|refine sB ?_|(first|apply pX|apply bX)<;>intro hc|refine⟨oD,?_⟩|exact oD|fail
    ·rw[if_neg hz]at heq;have hpos:0<r1:=by omega
     have hst:=hS.step hpos;have hml:=Nat.mod_lt r0 hpos;have hq:r0/r1≤r0:=Nat.div_le_self _ _;have dv:=lZ hr0 hr1 hpos;have b1:=hS.bx0;have b2:=hS.bx1;have b3:=hS.by0;have b4:=hS.by1;have b5:=hS.hx;have b6:=hS.hy;have c1:=AL (q:=r0/r1) (x0:=x0) (x1:=x1) (by omega) (by omega) (by omega) (by have:=AW (r1:=r1) hpos (show x1.natAbs*r0≤b by omega);unfold bL;omega)
     have c2:=AL (q:=r0/r1) (x0:=y0) (x1:=y1) (by omega) (by omega) (by omega) (by have:=AW (r1:=r1) hpos (show y1.natAbs*r0≤a by omega);unfold bL;omega)
     have en:=lU hz;have hgo:=hR (f,r1,r0%r1,x1,x0-((r0/r1:Nat):Int)*x1,y1,y0-((r0/r1:Nat):Int)*y1) ⟨by show r0%r1<f;omega,hst,hr1,by show r0%r1< _;omega,heq⟩ hml
     clear hR heq hst hS b1 b2 b3 b4 b5 b6 hres hE;generalize x0-((r0/r1:Nat):Int)*x1=u at*;generalize y0-((r0/r1:Nat):Int)*y1=v at*;repeat' first|simp only[go_sem,seval,en,Z,Z2,aH]|refine cP dv ?_|refine cV c1 ?_|refine cV c2 ?_|refine sB ?_|(first|apply pX|apply bX)<;>intro hc|refine⟨oD,?_⟩|exact oD|fail
     refine hgo _ ?_;exact lE
theorem lf {a m:Nat} (ha:a<18446744073709551616) (hm:m<18446744073709551616) (h0:0<m) (hg:Nat.gcd a m=1):aA Tryz.prog 125 [N a,N m] (.tup [N (cA a m),E 0]):=by
 have w1:=mO;have w2:=js;have hc:=fun nm=>MA nm (aI a) (aI m)
 rw[Li ha hm h0]at hc;have hl:=Nat.mod_lt a h0;have hd:=fW ha hm h0;have hg':Nat.gcd (a%m) m=1:=by rw[←hg,←Nat.gcd_rec,Nat.gcd_comm]
 obtain⟨X,Y,h1,h3⟩:=wV (a:=a%m) (b:=m) (by omega) hm h0
 obtain⟨h4,h5⟩:=h1 hg';rw[hg']at h3;have hX:X.natAbs%m=cA a m:=by
  rw[h5];obtain⟨g1,g2⟩:=(dO h0 hg').inv;exact(ed g1 (by rw[Nat.mod_mul_mod]at g2;exact g2)).symm
 have hr:aA Tryz.prog 162 [.s (zb X),N m] (N (cA a m)):=by
  have:=fW h4 hm h0
  rwa[hX]at this
 clear h1 h4 h5 hX;refine eW Tryz.call125 Tryz.func125 ?_;repeat' first|simp only[go_sem,seval,Z,JR,cE,bne_self_eq_false,beq_self_eq_true]|(refine aR (hc _) (by simp) ?_)|refine cP hd ?_|refine cP h3 ?_|refine cP hr ?_|refine sB ?_|(first|apply pX|apply bX)<;>intro hc|refine⟨oD,?_⟩|exact oD|fail
theorem gQ (n1 n2 nm:Nat) (hne:n1≠n2) {a b m:Nat} (o:Bytes) (el el2:Option TypeId) (ha:a<18446744073709551616) (hb:b<18446744073709551616) (hm:m<18446744073709551616) (h0:0<m):eL Tryz.prog 127 nm [(n1,⟨0,[.v (N a)],false,el⟩),(n2,⟨0,[.v (N m), .v (.s o)],false,el2⟩)] [.v (N b), .p n1 0 0, .p n2 0 0] (.tup []) [(n1,some ⟨0,[.v (N (a*b%m))],false,el⟩)]:=by
 have hx:=j9 ha hb hm h0;refine eL.w mixed Tryz.call127 Tryz.func127 rfl (fh.1 _ _ _ (by cbv)) (fh.2 _ _ (by cbv)) (obs:=[⟨0,[.v (N a)],false,el⟩,⟨0,[.v (N m), .v (.s o)],false,el2⟩]) (args:=[.v (N b), .p 0 0 0, .p 1 0 0]) (fs:=[some (some ⟨0,[.v (N (a*b%m))],false,el⟩),none]) (j:=none) (nw:=none) (v:= .tup []) (ns:=[n1,n2]) (obsA:=[⟨0,[.v (N a)],false,el⟩,⟨0,[.v (N m), .v (.s o)],false,el2⟩]) rfl ?_ (by simp) (by simp[hne]) rfl (by simp[aJ,aq.aC,AV.aC,AV.aC.renL]) (by simp[aJ,AV.aC,a7,hne,Ne.symm hne]) (by simp[AV.aC,AV.aC.renL]) (by simp[cL,outs,aq.aC,AV.aC,AV.aC.renL])
 simp only[go_sem,seval];repeat' first|simp only[go_sem,seval,true_or,or_true,false_or,or_false,Option.some.injEq,dR,ca,dF,cZ,cY,cl,jr,jJ,dx,dK,bu,az,AV.aC,AV.aC.renL,ar]|refine cP hx ?_|refine sB ?_|(first|apply pX|apply bX)<;>intro hc|refine⟨oD,?_⟩|exact oD|fail
 all_goals skip
theorem De {x:AV}:(List.replicate 1 [x]).flatten=[x]:=rfl
theorem tP {x:AV}:List.drop 1 [x]=[]:=rfl
theorem j7 {x:AV}:List.take 1 [x]=[x]:=rfl
theorem Cf {x y:AV}:List.set [x] 0 y=[y]:=rfl
theorem K4 {n:Nat}:n/2^a9 n=0:=by
 refine Nat.div_eq_of_lt ?_;unfold a9;split
 ·rename_i h;rw[h];decide
 ·rename_i h;exact Nat.lt_log2_self
theorem im (x:PV) (l:List PV):iU (.v x::l.map .v)=some (x::l):=by
 have h: ∀l:List PV,iU (l.map .v)=some l:=by
  intro l
  induction l with
  |nil=>rfl
  |cons y l ih=>
   unfold iU at ih⊢;rw[List.map_cons,aJ,ih];rfl
 have:=h (x::l);exact this

end Go.Proofs.YtmobkhegihemeaaGreatDoor
namespace Go.Proofs.YtmobkhegihemeaaGreatDoor
open Go Go.Dom Go.Num
set_option maxRecDepth 100000
set_option maxHeartbeats 16000000
theorem Rh {a b:Nat} (h:a<b):decide (aO a b≥0)=false:=decide_eq_false (fun g=>by have:=fQ.1 g;omega)
theorem RE {a b:Nat} (h:b≤a):decide (aO a b≥0)=true:=decide_eq_true (fQ.2 h)
theorem SW (a b:Nat):decide (aO a b<0)=decide (a<b):=by rw[Bool.eq_iff_iff];simp only[decide_eq_true_eq];exact dL
theorem DD (m o:Bytes):aA Tryz.prog 154 [G m o] (.b (aa m&&aa o)):=by
 have v1:=aN m;have v2:=aN o;refine eW Tryz.call154 Tryz.func154 ?_;repeat' first|simp only[go_sem,seval]|refine cP v1 ?_|refine cP v2 ?_|refine sB ?_|(first|apply pX|apply bX)<;>intro hc|refine⟨oD,?_⟩|exact oD|fail
 all_goals simp_all
theorem Hh {m:Bytes} (lm:m.length≤8) (o x:Bytes):aA Tryz.prog 102 [G m o, .s x] (.b (gU m o x)):=by
 have hf:=DD m o;have vx:=aN x
 by_cases h:aa m=true∧aa o=true∧aa x=true∧o≠[]∧x≠[]
 ·obtain⟨v1,v2,v3,h4,h5⟩:=h;have e4:(o==([]:Bytes))=false:=by simpa using h4
  have e5:(x==([]:Bytes))=false:=by simpa using h5
  have hn:=cv lm;have lx:=bw v3;have hor:=gP (aS v3) (aS v1) (by omega) (by omega)
  rw[v1,v2]at hf;rw[v3]at vx;have hx0:=mR (aS v3) h5
  by_cases h6:num x<num m
  ·have hE:=P7 (a:=num x) (m:=num m) (e:=o) (by omega) v2 hn (by omega)
   rw[dt v3,dt v1]at hE;have hlt: ∀ _:True,decide (aO (num x) (num m)≥0)=false:=fun _=>Rh (by omega)
   have e:gU m o x=decide (num x^num o%num m=1):=by simp[gU,v1,v2,v3,e4,e5,h6,Nat.mod_eq_of_lt (show 1<num m by omega)]
   rw[e];generalize num x^num o%num m=z1 at*;refine eW Tryz.call102 Tryz.func102 ?_;repeat' first|simp only[go_sem,seval,e4,e5,hlt trivial,JR]|refine cP hf ?_|refine cP vx ?_|refine cP hor ?_|refine cP hE ?_|refine sB ?_|(first|apply pX|apply bX)<;>intro hc|refine⟨oD,?_⟩|exact oD|fail
  ·have hlt: ∀ _:True,decide (aO (num x) (num m)≥0)=true:=fun _=>RE (by omega)
   have e:gU m o x=false:=by simp[gU,h6]
   rw[e];refine eW Tryz.call102 Tryz.func102 ?_;repeat' first|simp only[go_sem,seval,e4,e5,hlt trivial]|refine cP hf ?_|refine cP vx ?_|refine cP hor ?_|refine sB ?_|(first|apply pX|apply bX)<;>intro hc|refine⟨oD,?_⟩|exact oD|fail
 ·have e:gU m o x=false:=by
   rw[Bool.eq_false_iff];intro g;simp[gU]at g;exact h ⟨g.1.1.1.1.1.1,g.1.1.1.1.1.2,g.1.1.1.1.2,g.1.1.1.2,g.1.1.2⟩
  rw[e]
  by_cases hmo:(aa m&&aa o)=true
  case neg=>
   have hmo:(aa m&&aa o)=false:=by simpa using hmo
   rw[hmo]at hf;refine eW Tryz.call102 Tryz.func102 ?_;repeat' first|simp only[go_sem,seval]|refine cP hf ?_|refine cP vx ?_|refine sB ?_|(first|apply pX|apply bX)<;>intro hc|refine⟨oD,?_⟩|exact oD|fail
  rw[hmo]at hf
  by_cases v3:aa x=true
  case neg=>
   have v3:aa x=false:=by simpa using v3
   rw[v3]at vx;refine eW Tryz.call102 Tryz.func102 ?_;repeat' first|simp only[go_sem,seval]|refine cP hf ?_|refine cP vx ?_|refine sB ?_|(first|apply pX|apply bX)<;>intro hc|refine⟨oD,?_⟩|exact oD|fail
  rw[v3]at vx
  by_cases h4:o=[]
  ·subst h4;refine eW Tryz.call102 Tryz.func102 ?_;repeat' first|simp only[go_sem,seval,nn]|refine cP hf ?_|refine cP vx ?_|refine sB ?_|(first|apply pX|apply bX)<;>intro hc|refine⟨oD,?_⟩|exact oD|fail
  ·have e4:(o==([]:Bytes))=false:=by simpa using h4
   by_cases h5:x=[]
   ·subst h5;refine eW Tryz.call102 Tryz.func102 ?_;repeat' first|simp only[go_sem,seval,nn,e4]|refine cP hf ?_|refine cP vx ?_|refine sB ?_|(first|apply pX|apply bX)<;>intro hc|refine⟨oD,?_⟩|exact oD|fail
   ·simp only[Bool.and_eq_true]at hmo;exact absurd ⟨hmo.1,hmo.2,v3,h4,h5⟩ h
end Go.Proofs.YtmobkhegihemeaaGreatDoor
