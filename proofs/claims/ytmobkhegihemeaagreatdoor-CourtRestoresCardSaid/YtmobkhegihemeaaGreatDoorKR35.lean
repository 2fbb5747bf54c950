/-
  Part of the proof, part KR35. Own work.
-/
import Derived.Test.YtmobkhegihemeaaGreatDoorKR33
import Derived.Test.YtmobkhegihemeaaGreatDoorKR34
set_option linter.all false
namespace Go.Proofs.YtmobkhegihemeaaGreatDoor
open Go Go.Dom Go.Num
set_option maxRecDepth 100000
set_option maxHeartbeats 16000000
theorem J5 (x:Bool×Bytes):aB Tryz.prog 170 [cu x] (.b (!bH x)):=by
 obtain⟨n,a⟩:=x;have hv:=dJ n a;have e:bH (n,a)=(aa a&& !(n&&a==[])):=rfl;rw[e];generalize (aa a&& !(n&&a==[]))=b at*;simp only[cu];refine eW Tryz.call170 Tryz.func170 ?_;repeat' first|simp only[go_sem,seval]|refine cP hv ?_|refine sB ?_|(first|apply pX|apply bX)<;>intro hc|refine⟨oD,?_⟩|exact oD|fail
theorem J6 (b:Bytes):aB Tryz.prog 175 [bV b] (.s b):=by
 unfold bV;refine eW Tryz.call175 Tryz.func175 ?_;repeat' first|simp only[go_sem,seval]|refine sB ?_|(first|apply pX|apply bX)<;>intro hc|refine⟨oD,?_⟩|exact oD|fail
theorem J7 (m:Bytes):aB Tryz.prog 176 [.sl [G m []], .fn (.func 177)] (E (-1)):=by
 have h:aB Tryz.prog 177 [G m []] (.b false):=by
  refine eW Tryz.call177 Tryz.func177 ?_;repeat' first|simp only[go_sem,seval]|refine sB ?_|(first|apply pX|apply bX)<;>intro hc|refine⟨oD,?_⟩|exact oD|fail
  all_goals rfl
 refine eW Tryz.call176 Tryz.func176 ?_;repeat' first|simp only[go_sem,seval]|refine sB ?_|(first|apply pX|apply bX)<;>intro hc|refine⟨oD,?_⟩|exact oD|fail
 refine ae ?_;repeat' first|simp only[go_sem,seval]|refine cP h ?_|refine sB ?_|(first|apply pX|apply bX)<;>intro hc|refine⟨oD,?_⟩|exact oD|fail
 refine ae ?_;repeat' first|simp only[go_sem,seval]|refine sB ?_|(first|apply pX|apply bX)<;>intro hc|refine⟨oD,?_⟩|exact oD|fail
theorem z8 {vs:List Bytes} (sd:Bytes) {a:Int} (hl:vs.length<1000000):aB Tryz.prog 92 [T vs sd a, .s [1],E 0] (if bm vs a then .tup [.sl [],T vs sd a,E 0]else .tup [.sl [],T [] [] 0,E 3]):=by
 have h1:=mD vs sd a [1] (by omega)
 have e:nQ vs a [1]=if bm vs a then 0 else 3:=by unfold nQ;cases bm vs a<;>rfl
 rw[e]at h1;generalize bm vs a=b at*;cases b
 ·refine eW Tryz.call92 Tryz.func92 ?_;repeat' first|simp only[go_sem,seval]|refine cP h1 ?_|refine sB ?_|(first|apply pX|apply bX)<;>intro hc|refine⟨oD,?_⟩|exact oD|fail
  all_goals rfl
 ·refine eW Tryz.call92 Tryz.func92 ?_;repeat' first|simp only[go_sem,seval]|refine cP h1 ?_|(refine ae ?_)|refine sB ?_|(first|apply pX|apply bX)<;>intro hc|refine⟨oD,?_⟩|exact oD|fail
  all_goals rfl
end Go.Proofs.YtmobkhegihemeaaGreatDoor
namespace Go.Proofs.YtmobkhegihemeaaGreatDoor
open Go Go.Dom
set_option maxRecDepth 100000
set_option maxHeartbeats 16000000
abbrev Rw:PV:= .agg [.sl [], .s [], .sl []]
abbrev B0:PV:= .agg [.sl [], .sl []]
theorem CG {c sl:Bytes} (hr:lJ c sl) {s:bQ} {ch:Bytes} {rs:List (Bool×Bytes)} {gs:List Bytes} {ls:List (List (Bool×Bytes))} (h1:rs.length<1000000) (h2:gs.length≤1000) (h3:ls.length≤1000) (h4: ∀l∈ls,l.length<4611686018427387904) (hf:ff c s.vars.length ch rs gs ls≠0):
  aB Tryz.prog 206 [X0 c sl s,C5 ch rs gs ls] (.tup [Rw,B0,E (ff c s.vars.length ch rs gs ls)]):=by
 have hfo:=ua (c:=c) (sl:=sl) hr.vc s ch rs gs ls h1 h2 h3 h4;have hb:(ff c s.vars.length ch rs gs ls==0)=false:=by simpa using hf
 generalize ff c s.vars.length ch rs gs ls=e at*;obtain⟨gq,vs,es⟩:=s;simp only[X0,C5]at hfo⊢;refine eW Tryz.call206 Tryz.func206 ?_;repeat' first|simp only[go_sem,seval,hb]|refine cP hfo ?_|refine sB ?_|(first|apply pX|apply bX)<;>intro hc|refine⟨oD,?_⟩|exact oD|fail
 all_goals skip
abbrev xA:Bytes:=[100,111,109,105,110,111,32,112,114,111,111,102]
abbrev zt:Bytes:=[99,111,110,116,101,120,116]
abbrev JK:Bytes:=[102,111,114,109,117,108,97]
abbrev Ny:Bytes:=[102,105,114,115,116]
def AG (ctx:Bytes) (s:bQ) (fs:List Bytes):Bytes:=fA (fh (lK (fh (mM xA) zt ctx) s) JK []) Ny fs
theorem yn {c sl:Bytes} (s:bQ) (x:PV) (n:Bytes):aB Tryz.prog 207 [X0 c sl s,B0, .s n] (.b true):=by
 obtain⟨gq,vs,es⟩:=s;simp only[X0];refine eW Tryz.call207 Tryz.func207 ?_;repeat' first|simp only[go_sem,seval]|refine sB ?_|(first|apply pX|apply bX)<;>intro hc|refine⟨oD,?_⟩|exact oD|fail
noncomputable def oC (s:bQ) (ch:Bytes) (rs:List (Bool×Bytes)):List Bytes:=s.eqs.map fun q=>aK (iQ s.groups ch rs q)
theorem Ci {c:Bytes} {nv:Nat} {ch:Bytes} {rs:List (Bool×Bytes)} {gs:List Bytes} {ls:List (List (Bool×Bytes))} (h:ff c nv ch rs gs ls=0):gs=[]∧ls=[]:=by
 unfold ff at h
 split at h
 ·exact absurd h (by decide)
 ·split at h
  ·exact absurd h (by decide)
  ·rename_i hm;exact⟨Decidable.byContradiction fun h=>hm (.inr (.inl h)),Decidable.byContradiction fun h=>hm (.inr (.inr h))⟩
end Go.Proofs.YtmobkhegihemeaaGreatDoor
namespace Go.Proofs.YtmobkhegihemeaaGreatDoor
open Go Go.Dom Go.Num
set_option maxRecDepth 100000
def qW (vs:List Bytes) (sd:Bytes) (i M:Nat):Except Int Int:=
 match dw vs sd i (aK (2*M-1))with
 | .error e=> .error e
 | .ok x=> .ok ((num x:Int)-(M-1:Nat))
theorem td (st:Bytes) {c:Bytes} (h:2≤num c):fZ st c<num c:=Nat.mod_lt _ (by omega)
theorem JP {f:Nat→Bytes} {n:Nat} {x:Bytes}: ∀{k a:Nat},xF f n a k=some x→num x<n∧ ∃b,x=f b:=by
 intro k
 induction k with
 |zero=>intro a h;cases h
 |succ k ih=>
  intro a h;rw[xF]at h
  split at h
  ·rename_i hlt;injection h with h
   subst h;exact⟨hlt,a,rfl⟩
  ·exact ih h
theorem dp {vs:List Bytes} {sd:Bytes} {i:Nat} {n x:Bytes} (hv:vs.all aa=true) (hn:aa n=true) (hl:vs.length<1000000) (hi:i≤2147483647) (h:dw vs sd i n= .ok x):aa x=true∧num x<num n∧i+1≤2147483647:=by
 unfold dw at h
 split at h
 ·rename_i hiv
  split at h
  ·cases h
  ·rename_i hlt;injection h with h
   subst h;exact⟨List.all_eq_true.1 hv _ (wJ hiv),by omega,by omega⟩
 ·split at h
  ·cases h
  ·rename_i hs;have hi2:i≠2147483647:=fun e=>hs (.inr e)
   split at h
   ·rename_i y hy;injection h with h
    subst h;obtain⟨h1,b,hb⟩:=JP hy;exact⟨by rw[hb];exact pz sd i b (vO hn),h1,by omega⟩
   ·cases h
theorem GA {vs:List Bytes} {sd:Bytes} {i M:Nat} {z:Int} (hv:vs.all aa=true) (h1:1≤M) (h2:2*M<dt) (hl:vs.length<1000000) (hi:i≤2147483647) (h:qW vs sd i M= .ok z):z.natAbs<M∧i+1≤2147483647:=by
 unfold qW at h
 split at h
 ·cases h
 ·rename_i x hx;obtain⟨-,h3,h4⟩:=dp hv (vB (by omega)) hl hi hx
  rw[aG]at h3;injection h with h
  subst h;exact⟨by omega,h4⟩
theorem jb {vs:List Bytes} {sd:Bytes} {i:Nat} {n:Bytes} {e:Int} (h:dw vs sd i n= .error e):e=2∨e=14:=by
 unfold dw at h
 split at h
 ·split at h
  ·injection h with h;exact .inl h.symm
  ·cases h
 ·split at h
  ·injection h with h;exact .inr h.symm
  ·split at h
   ·cases h
   ·injection h with h;exact .inr h.symm
theorem C4 {vs:List Bytes} {sd:Bytes} {i M:Nat} {e:Int} (h:qW vs sd i M= .error e):e=2∨e=14:=by
 unfold qW at h
 split at h
 ·rename_i e' he;injection h with h
  subst h;exact jb he
 ·cases h
theorem uh {x:Bytes} (h:aa x=true):gJ (num x:Int)=(false,x):=by
 have e:aK (num x)=x:=by have:=dy h;injection this
 simp[gJ,zs,zb,e]
end Go.Proofs.YtmobkhegihemeaaGreatDoor
namespace Go.Proofs.YtmobkhegihemeaaGreatDoor
open Go Go.Dom Go.Num
set_option maxRecDepth 100000
set_option maxHeartbeats 16000000
def mK (vs:List Bytes) (sd:Bytes) (i:Nat):Except Int Int→PV
 | .ok z=> .tup [Z z,T vs sd (i+1:Nat),E 0]
 | .error e=> .tup [.agg [.b false, .s []],T [] [] 0,E e]
theorem sf {vs:List Bytes} {sd:Bytes} {i M:Nat} (hv:vs.all aa=true) (hi:i≤2147483647) (hl:vs.length<1000000) (hsd:sd.length<1000000) (h1:1≤M) (h2:3*M<dt):aB Tryz.prog 261 [T vs sd i,N M] (mK vs sd i (qW vs sd i M)):=by
 have hM:aK M≠[]:=by rw[ne_eq,eV];omega
 have hN:aa (aK (2*M-1))=true:=vB (by omega)
 have hr:=mD vs sd i (aK M) (by omega)
 rw[zm hv (vB (by omega)) hM hi]at hr
 have ha:=HA (a:=M) (b:=M) (by omega)
 have hs:=oK (a:=M) (b:=1) (by omega) (by omega)
 have ho:=oK (a:=M+M) (b:=1) (by omega) (by omega)
 have hd:=pO (sd:=sd) hv hN (by rw[aG];omega) hi hl hsd
 rw[←cA]at hs ho;rw[show M+M-1=2*M-1 by omega]at ho
 unfold qW;generalize hD:dw vs sd i (aK (2*M-1))=r at*
 cases r with
 |error e=>
  unfold iy at hd;unfold mK;rcases jb hD with rfl|rfl
  ·refine eW Tryz.call261 Tryz.func261 ?_;repeat' first|simp only[go_sem,seval]|refine cP hr ?_|refine cP ha ?_|refine cP hs ?_|refine cP ho ?_|refine cP hd ?_|refine sB ?_|(first|apply pX|apply bX)<;>intro hc|refine⟨oD,?_⟩|exact oD|fail
   all_goals rfl
  ·refine eW Tryz.call261 Tryz.func261 ?_;repeat' first|simp only[go_sem,seval]|refine cP hr ?_|refine cP ha ?_|refine cP hs ?_|refine cP ho ?_|refine cP hd ?_|refine sB ?_|(first|apply pX|apply bX)<;>intro hc|refine⟨oD,?_⟩|exact oD|fail
   all_goals rfl
 |ok x=>
  obtain⟨vx,hx,-⟩:=dp hv hN hl hi hD;rw[aG]at hx;have hz:=Kv (x:=(num x:Int)) (y:=((M-1:Nat):Int)) (by omega)
  have e1:Z (num x:Int)= .agg [.b false, .s x]:=by rw[←IJ,uh vx];rfl
  have e2:Z ((M-1:Nat):Int)= .agg [.b false,N (M-1)]:=rfl;rw[e1,e2]at hz;unfold iy at hd;unfold mK;simp only;refine eW Tryz.call261 Tryz.func261 ?_;repeat' first|simp only[go_sem,seval]|refine cP hr ?_|refine cP ha ?_|refine cP hs ?_|refine cP ho ?_|refine cP hd ?_|refine cP hz ?_|refine sB ?_|(first|apply pX|apply bX)<;>intro hc|refine⟨oD,?_⟩|exact oD|fail
  all_goals rfl
theorem ya:cC Zp 2:=⟨fun _=>rfl,fun x y hy=>by simp[Zp,cu,gJ,PV.cells]at hy;rcases hy with rfl|rfl<;>rfl,fun h=>by omega,fun _ x=>rfl⟩
def Fs (vs:List Bytes) (sd:Bytes) (j:Nat):Except Int (List Int)→PV
 | .ok ms=> .tup [.sl (ms.map Zp),T vs sd j,E 0]
 | .error e=> .tup [.sl [],T [] [] 0,E e]
theorem uu {c sl b:Bytes} (hr:lJ c sl) (vb:aa b=true) (hb:b≠[]) (lb:b.length≤16):1≤qj c sl b∧3*qj c sl b<dt:=by
 have h1:=hr.c2;have h2:=hr.s2;have h3:=uA vb hb;unfold qj;refine⟨Nat.mul_pos (Nat.mul_pos (by omega) (by omega)) (by omega),?_⟩
 have g1:num sl<256^8:=Nat.lt_of_lt_of_le (bR sl) (Nat.pow_le_pow_right (by decide) hr.ls)
 have g2:num c<256^8:=Nat.lt_of_lt_of_le (bR c) (Nat.pow_le_pow_right (by decide) hr.lc)
 have g3:num b<256^16:=Nat.lt_of_lt_of_le (bR b) (Nat.pow_le_pow_right (by decide) lb)
 have g4:num sl*num c*num b≤256^8*256^8*256^16:=Nat.mul_le_mul (Nat.mul_le_mul (Nat.le_of_lt g1) (Nat.le_of_lt g2)) (Nat.le_of_lt g3);exact Nat.lt_of_le_of_lt (Nat.mul_le_mul_left 3 g4) (by unfold dt;decide+kernel)
theorem Bv (ms:List Int) (z:Int):aQ Zp (ms++[z])=aQ Zp ms++[.v (.b (zs z)), .v (.s (zb z))]:=by rw[bz];rfl

def O5 (vs:List Bytes) (sd:Bytes):Except Int (Bytes×List Int×Nat)→PV
 | .ok (ch,rs,j)=> .tup [.agg [.s ch, .sl (rs.map Zp), .sl [], .sl []],T vs sd j,E 0]
 | .error e=> .tup [.agg [.s [], .sl [], .sl [], .sl []],T [] [] 0,E e]





end Go.Proofs.YtmobkhegihemeaaGreatDoor
namespace Go.Proofs.YtmobkhegihemeaaGreatDoor
open Go Go.Dom
set_option maxRecDepth 100000
set_option maxHeartbeats 16000000


end Go.Proofs.YtmobkhegihemeaaGreatDoor
namespace Go.Proofs.YtmobkhegihemeaaGreatDoor
open Go Go.Dom Go.Num
set_option maxRecDepth 100000
set_option maxHeartbeats 16000000

end Go.Proofs.YtmobkhegihemeaaGreatDoor
namespace Go.Proofs.YtmobkhegihemeaaGreatDoor
open Go Go.Dom Go.Num
set_option maxRecDepth 100000
set_option maxHeartbeats 8000000

end Go.Proofs.YtmobkhegihemeaaGreatDoor
namespace Go.Proofs.YtmobkhegihemeaaGreatDoor
open Go Go.Dom Go.Num
set_option maxRecDepth 100000
set_option maxHeartbeats 16000000
abbrev Nx:aq:=⟨0,[.v (.s []), .v (.s [])],false,none⟩

def Key.rb (k:Key):List Bytes:=k.z::k.u::k.h::k.r
def Key.l (k:Key):List Bytes:=k.m::k.o::k.s::k.rb
end Go.Proofs.YtmobkhegihemeaaGreatDoor
namespace Go.Proofs.YtmobkhegihemeaaGreatDoor
open Go Go.Dom
set_option maxRecDepth 100000
set_option maxHeartbeats 16000000
def Q1 (k:Key):List Bytes:=k.z::k.u::k.h::k.r
structure R5 (k:Key):Prop where
 o:k.o=[]
 gd:gi k.m []=true
 s:rT k.m [] k.s=true
 t: ∀x∈Q1 k,rT k.m [] x=true
 r:k.r.length≤18
end Go.Proofs.YtmobkhegihemeaaGreatDoor
namespace Go.Proofs.YtmobkhegihemeaaGreatDoor
open Go Go.Dom Go.Num
set_option maxRecDepth 100000
set_option maxHeartbeats 16000000

structure N2 (s:bQ):Prop where
 g: ∃m o,s.groups=[(m,o)]∧m.length≤1000∧o.length≤1000
 v0:s.vars≠[]
 nv:s.vars.length≤64
 v: ∀b∈s.vars,b.length≤1000
 ne:s.eqs.length≤64
 q: ∀q∈s.eqs,0≤q.iE∧q.iE<100∧q.tgt.length≤1000∧q.terms.length≤64∧ ∀t∈q.terms,0≤t.var∧t.var<100∧t.base.length≤1000∧t.abs.length≤1000
theorem pD {l:List dL} {st:Bytes} (hs:st.length=32):(l.foldl ss st).length=32:=by
 induction l generalizing st with
 |nil=>exact hs
 |cons t l ih=>exact ih (zK _ _ _)
theorem pC {l:List cG} {st:Bytes} (hs:st.length=32):(l.foldl sr st).length=32:=by
 induction l generalizing st with
 |nil=>exact hs
 |cons q l ih=>exact ih (pD (eH _ _ _))
theorem N4 {st:Bytes} (hst:st.length≤1000) {s:bQ} (hs:N2 s):aB Tryz.prog 190 [.s st,s.pv] (.s (lK st s)):=by
 obtain⟨⟨m,o,hg,lm,lo⟩,v0,nv,hv,ne,hq⟩:=hs;obtain⟨gs,vs,es⟩:=s;simp only at hg v0 nv hv ne hq;subst hg;obtain⟨w0,wr,hw⟩: ∃a b,vs=a::b:=by cases vs with
  |nil=>exact absurd rfl v0
  |cons a b=>exact⟨a,b,rfl⟩
 have hvl:vs.length=wr.length+1:=by rw[hw];rfl
 have hpos: ∀ _:True,(0:Int)<(vs.length:Int):=fun _=>by omega
 have g0:(vs.map bV).getD 0 .fn0= .agg [.s w0]:=by rw[hw];rfl
 simp only[lK,List.flatMap_cons,List.flatMap_nil,List.append_nil,bQ.pv,List.map_cons,List.map_nil,dU];have n1:=j5 st xB [m,o] (by omega) (by decide) (by simp) (by simp) (by intro s hs;simp at hs;rcases hs with rfl|rfl<;>omega)
 simp only[List.map_cons,List.map_nil]at n1;have n2:=j5 (fA st xB [m,o]) Bm vs (by rw[eH];decide) (by decide) v0 (by omega) (fun x hx=>by have:=hv x hx;omega)
 have l2:=eH (fA st xB [m,o]) Bm vs;refine eW Tryz.call190 Tryz.func190 ?_;repeat' first|simp only[go_sem,seval]|(refine ae ?_)|refine sB ?_|(first|apply pX|apply bX)<;>intro hc|refine⟨oD,?_⟩|exact oD|fail
 repeat' first|simp only[go_sem,seval,g0,hpos trivial]|refine sB ?_|(first|apply pX|apply bX)<;>intro hc|refine⟨oD,?_⟩|exact oD|fail
 have hro:[AV.v (PV.s w0)]=aQ PV.s (vs.take 1):=by rw[hw];rfl
 rw[hro];refine aj (α:=Nat) (fun j=>vs.length-j) (fun j=>⟨[(0, .v (.s st)),(3, .p 1000 0 0),(5, .rs 1019 0 0 2 1),(6, .rs 1037 j 0 (1+j) 1),(31, .v (.sl (vs.map bV))),(32,E' vs.length),(33,E' (j+1))],[(1000,⟨0,[.v (.sl [.agg [.s m, .s o]]), .v (.sl (vs.map bV)), .v (.sl (es.map cG.pv))],false,none⟩),(1019,⟨0,[.v (.s m), .v (.s o)],true,some 22⟩),(1037,⟨j,aQ PV.s (vs.take (j+1)),true,some 22⟩)],1041⟩) (fun j=>j+1≤vs.length) 0 (fun _=>Nat.le_of_ble_eq_true rfl) (by omega) ?_ ?_
 ·(refine AS.Le.of (by first|decide|omega) ?_ ?_<;>simp[bL,bK,aD,ai,AV.bd,AV.bd.bdL,u8,af,ah,ak])
  all_goals exact fun c hc=>cb hc
 ·intro j hj R hR;have hlr:(vs.take (j+1)).length=1+j:=by rw[List.length_take];omega
  have q0:(aQ PV.s (vs.take (j+1))).length=1+j:=by rw[a9 cC.s,hlr,Nat.mul_one]
  have q1:List.take (1+j) (aQ PV.s (vs.take (j+1)))=aQ PV.s (vs.take (j+1)):=List.take_of_length_le (by omega)
  by_cases hjt:j+1<vs.length
  ·have e2:=getD_map bV vs ([]:Bytes) hjt;have hgo:=hR (j+1) (by omega) (by omega)
   rw[aN ([]:Bytes) hjt,bz]at hgo;generalize vs.getD (j+1) []=y at e2 hgo;have e2:(vs.map bV).getD (j+1) .fn0= .agg [.s y]:=e2;have e3: ∀ _:True,((j:Int)+1).toNat=j+1:=fun _=>by omega
   clear hR hlr n1 n2;repeat' first|simp only[go_sem,seval,q0,q1,e2,e3 trivial]|refine sB ?_|(first|apply pX|apply bX)<;>intro hc|refine⟨oD,?_⟩|exact oD|fail
   refine hgo _ ?_
   (refine AS.Le.of (by first|decide|omega) ?_ ?_<;>simp[bL,bK,aD,ai,AV.bd,AV.bd.bdL,u8,af,ah,ak])
   all_goals first|omega|exact⟨rfl,fun c hc=>by rcases hc with hc|⟨a,ha,rfl⟩;exact cb hc;rfl⟩|skip
  ·have hj2:j+1=vs.length:=by omega
   rw[hj2,List.take_length]at hlr q0 q1⊢;clear hR hpos g0 hro;repeat' first|simp only[go_sem,seval,q0,q1]|refine cV n1 ?_|(refine Dp (l:=vs) (g:=PV.s) (ver:=j) (gr:=true) (el:=some 22) n2 cC.s rfl (by simp[ai]) hlr.symm ?_)|refine sB ?_|(first|apply pX|apply bX)<;>intro hc|refine⟨oD,?_⟩|exact oD|fail
   generalize fA (fA st xB [m,o]) Bm vs=s0 at l2⊢;clear n1 n2;refine aj (α:=Nat) (fun i=>es.length-i) (fun i=>⟨[(0, .v (.s ((es.take i).foldl sr s0))),(50, .v (.sl (es.map cG.pv))),(51,E' es.length),(52,E' i)],[],_⟩) (fun i=>i≤es.length) 0 (fun _=>Nat.le_refl _) (Nat.zero_le _) ?_ ?_
   ·(refine AS.Le.of (by first|decide|omega) ?_ ?_<;>simp[bL,bK,aD,ai,AV.bd,AV.bd.bdL,u8,af,ah,ak])
    all_goals rfl
   ·intro i hi R hR
    by_cases hit:i<es.length
    ·have e2:=getD_map cG.pv es gH hit;have hgo:=hR (i+1) (by omega) (by omega)
     rw[pU sr s0 gH hit]at hgo;obtain⟨g1,g2,g3,nt,ht⟩:=hq _ (au gH hit);have hX:=pC (l:=es.take i) l2;generalize (es.take i).foldl sr s0=X at hgo hX⊢;generalize es.getD i gH=q at*;obtain⟨iE,tgt,ts⟩:=q;simp only at g1 g2 g3 nt ht;obtain⟨n,rfl⟩: ∃n:Nat,iE=(n:Int):=⟨iE.toNat,by omega⟩
     have e2:(es.map cG.pv).getD i .fn0= .agg [.i .i64 (n:Int), .s tgt, .sl (ts.map dL.pv)]:=e2;simp only[sr,Int.toNat_natCast]at hgo;have ln:=wj n;have l4:(ts.map dL.pv).length=ts.length:=List.length_map ..;have c1:=tt n (by omega)
     have c2:=pf X Gn (jo n) (by omega) (by decide) (by omega)
     have c3:=j5 (fh X Gn (jo n)) JM [tgt] (by rw[kz];decide) (by decide) (by simp) (by simp) (by simp;omega)
     have lS:=eH (fh X Gn (jo n)) JM [tgt];generalize fA (fh X Gn (jo n)) JM [tgt]=S0 at*;simp only[List.map_cons,List.map_nil]at c3;clear hR hq;repeat' first|simp only[go_sem,seval,e2,l4]|refine cP c1 ?_|refine cP c2 ?_|refine cP c3 ?_|refine sB ?_|(first|apply pX|apply bX)<;>intro hc|refine⟨oD,?_⟩|exact oD|fail
     refine aj (α:=Nat) (fun k=>ts.length-k) (fun k=>⟨[(0, .v (.s ((ts.take k).foldl ss S0))),(50, .v (.sl (es.map cG.pv))),(51,E' es.length),(52,E' i),(67, .v (.sl (ts.map dL.pv))),(68,E' ts.length),(69,E' k)],[],_⟩) (fun k=>k≤ts.length) 0 (fun _=>Nat.le_refl _) (Nat.zero_le _) ?_ ?_
     ·(refine AS.Le.of (by first|decide|omega) ?_ ?_<;>simp[bL,bK,aD,ai,AV.bd,AV.bd.bdL,u8,af,ah,ak])
      all_goals rfl
     ·clear c1 c2 c3 e2;intro k hk R' hR'
      by_cases hkt:k<ts.length
      ·have e3:=getD_map dL.pv ts fV hkt;have hgo':=hR' (k+1) (by omega) (by omega)
       rw[pU ss S0 fV hkt]at hgo';obtain⟨v1,v2,lb,la⟩:=ht _ (au fV hkt);have hY:=pD (l:=ts.take k) lS;generalize (ts.take k).foldl ss S0=Y at hgo' hY⊢;generalize ts.getD k fV=t at*;obtain⟨base,vr,ng,ab⟩:=t;simp only at v1 v2 lb la;obtain⟨v,rfl⟩: ∃v:Nat,vr=(v:Int):=⟨vr.toNat,by omega⟩
       have e3:(ts.map dL.pv).getD k .fn0= .agg [.s base, .i .i64 (v:Int), .b ng, .s ab]:=e3;simp only[ss,Int.toNat_natCast]at hgo';have lv:=wj v;have c4:=tt v (by omega)
       have c5:=pf Y JN (jo v) (by omega) (by decide) (by omega)
       have c6:=j5 (fh Y JN (jo v)) Gm [base] (by rw[kz];decide) (by decide) (by simp) (by simp) (by simp;omega)
       have c7:=GI (fA (fh Y JN (jo v)) Gm [base]) KJ ng ab (by rw[eH];decide) (by decide) (by omega)
       simp only[List.map_cons,List.map_nil]at c6;clear hR' hgo;repeat' first|simp only[go_sem,seval,e3,l4]|refine cP c4 ?_|refine cP c5 ?_|refine cP c6 ?_|refine cP c7 ?_|refine sB ?_|(first|apply pX|apply bX)<;>intro hc|refine⟨oD,?_⟩|exact oD|fail
       refine hgo' _ ?_
       (refine AS.Le.of (by first|decide|omega) ?_ ?_<;>simp[bL,bK,aD,ai,AV.bd,AV.bd.bdL,u8,af,ah,ak])
       all_goals first|omega|skip
      ·have h:k=ts.length:=by omega
       rw[h,List.take_length];repeat' first|simp only[go_sem,seval,l4]|refine sB ?_|(first|apply pX|apply bX)<;>intro hc|refine⟨oD,?_⟩|exact oD|fail
       refine hgo _ ?_
       (refine AS.Le.of (by first|decide|omega) ?_ ?_<;>simp[bL,bK,aD,ai,AV.bd,AV.bd.bdL,u8,af,ah,ak])
       all_goals first|omega|skip
    ·have h:i=es.length:=by omega
     rw[h,List.take_length];repeat' first|simp only[go_sem,seval]|refine sB ?_|(first|apply pX|apply bX)<;>intro hc|refine⟨oD,?_⟩|exact oD|fail
theorem oj {c sl:Bytes} {s:bQ} (hp:z9 c sl s):aB Tryz.prog 114 [.agg [.s c, .s sl],s.pv,C0] (.tup [X0 c sl s,E 0]):=by
 have hb:=xz hp;obtain⟨gs,vs,es⟩:=s;simp only[bQ.pv,X0]at hb⊢;refine eW Tryz.call114 Tryz.func114 ?_;repeat' first|simp only[go_sem,seval]|refine cP hb ?_|refine cP Ad ?_|refine sB ?_|(first|apply pX|apply bX)<;>intro hc|refine⟨oD,?_⟩|exact oD|fail
theorem yC {st:Bytes} {s:bQ}:(lK st s).length=32:=by
 unfold lK;exact pC (eH _ _ _)
theorem pH {c sl:Bytes} (hr:lJ c sl) {s:bQ} (hb:N2 s) {ctx:Bytes} (hx:ctx.length≤100000) {fs:List Bytes} (f0:fs≠[]) (fn:fs.length≤900) (fl: ∀x∈fs,x.length≤100000):
  aB Tryz.prog 118 [X0 c sl s, .s ctx, .sl (fs.map .s), .sl []] (.tup [N (fZ (AG ctx s fs) c),E 0]):=by
 have c0:c≠[]:=by
  intro h;have:=hr.c2;rw[h]at this;exact absurd this (by decide)
 have n1:=JU xA (by decide)
 have n2:=pf (mM xA) zt ctx (by rw[Dc];decide) (by decide) hx
 have n3:=N4 (st:=fh (mM xA) zt ctx) (by rw[kz];decide) hb
 have n4:=pf (lK (fh (mM xA) zt ctx) s) JK [] (by rw[yC];decide) (by decide) (by decide)
 have n5:=j5 (fh (lK (fh (mM xA) zt ctx) s) JK []) Ny fs (by rw[kz];decide) (by decide) f0 fn fl
 have n6:=rY (AG ctx s fs) c (by rw[AG,eH];decide) hr.vc c0 hr.lc
 have n5:aB Tryz.prog 192 [.s (fh (lK (fh (mM xA) zt ctx) s) JK []), .s Ny, .sl (fs.map .s)] (.s (AG ctx s fs)):=n5;generalize AG ctx s fs=st5 at*;generalize lK (fh (mM xA) zt ctx) s=st3 at*;obtain⟨gq,vs,es⟩:=s;simp only[X0,bQ.pv]at n3⊢;refine eW Tryz.call118 Tryz.func118 ?_;repeat' first|simp only[go_sem,seval]|refine cP n1 ?_|refine cP n2 ?_|refine cP n3 ?_|refine cP n4 ?_|refine cP n5 ?_|refine cP n6 ?_|refine cP L7 ?_|(refine ae ?_)|refine sB ?_|(first|apply pX|apply bX)<;>intro hc|refine⟨oD,?_⟩|exact oD|fail
end Go.Proofs.YtmobkhegihemeaaGreatDoor
