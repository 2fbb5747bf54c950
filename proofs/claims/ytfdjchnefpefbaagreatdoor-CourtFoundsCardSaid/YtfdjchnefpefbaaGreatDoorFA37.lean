/-
  Part of the proof, part FA37. Own work.
-/
import Derived.Test.YtfdjchnefpefbaaGreatDoorFA35
import Derived.Test.YtfdjchnefpefbaaGreatDoorFA36
set_option linter.all false
namespace Go.Proofs.YtfdjchnefpefbaaGreatDoor
open Go Go.Dom
set_option maxRecDepth 100000
set_option maxHeartbeats 16000000
theorem mI:dV eC 2:=⟨fun _=>rfl,fun x y hy=>by obtain⟨n,a⟩:=x;simp[eC,PV.cells]at hy;rcases hy with rfl|rfl<;>rfl,fun h=>by omega,fun _ x=>rfl⟩
theorem Ga:aA Tryz.prog 67 [.sl []] (.sl []):=by
 refine eW Tryz.call67 Tryz.func67 ?_;exact z0
theorem HT {l:List (Bool×Bytes)} (h0:l≠[]) (hl:l.length<1000000):aA Tryz.prog 347 [.sl (l.map eC)] (.sl (l.map eC)):=by
 obtain⟨x,r,rfl⟩: ∃x r,l=x::r:=by cases l with
  |nil=>exact absurd rfl h0
  |cons a b=>exact⟨a,b,rfl⟩
 rw[aS];have k1:(eC x::r.map eC)=(x::r).map eC:=rfl;have k0:(r.map eC).length=r.length:=aE ..;refine eW Tryz.call347 Tryz.func347 ?_;refine fx @k0 ?_;have hrow:List.map AV.v ((eC x).cells++List.flatMap PV.cells (List.map eC r))=bO eC (x::r):=by
  rw[bO,dQ,wa]
 have hL:((eC x).cells++List.flatMap PV.cells (List.map eC r)).length=(r.length+1)*2:=by
  have:=de mI (x::r);rw[<-hrow,aE]at this;exact this
 have q1:List.take ((r.length+1)*2) (bO eC (x::r))=bO eC (x::r):=dK mI (x::r);have q2:=fk mI (x::r);have q3:chunk 2 (r.length+1) ((x::r).flatMap fun x=>(eC x).cells)=(x::r).map eC:=dA mI (x::r)
 have q4: ∀y∈bO eC (x::r),y.one=true:=fun y hy=>bz.1 q2 y hy
 rw[hrow];refine⟨⟨⟨mI.len x,fun y hy=>by obtain⟨z,-,rfl⟩:=bw.1 hy;exact mI.len z⟩,q4,by simp at hl;omega,by simp at hl;omega⟩,?_⟩
 simp only[hL,q1,q2,q3,e9,an,and_self,if_true,Option.map_some];exact⟨trivial,rfl⟩
def X0 (c sl:Bytes) (s:dJ):PV:= .agg [.s c, .s sl, .sl (s.groups.map gO), .sl (s.vars.map dO), .sl (s.eqs.map eH.pv), .sl [], .sl [], .s []]
def ju (c:Bytes) (nv:Nat) (ch:Bytes) (rs:List (Bool×Bytes)) (gs:List Bytes) (ls:List (List (Bool×Bytes))):Int:=
 if !(aa ch&&rs.all c9&&ls.all (fun l=>l.all c9)&&gs.all aa)then 3 else if rs.length≠nv\/gs≠[]\/ls≠[]then 6 else if num c<=num ch then 2 else 0
def Js (ch:Bytes) (rs:List (Bool×Bytes)) (gs:List Bytes) (ls:List (List (Bool×Bytes))):PV:= .agg [.s ch, .sl (rs.map eC), .sl (gs.map .s), .sl (ls.map G4)]
theorem AZ {c sl:Bytes} (vc:aa c=true) (s:dJ) (ch:Bytes) (rs:List (Bool×Bytes)) (gs:List Bytes) (ls:List (List (Bool×Bytes))) (h1:rs.length<1000000) (h2:gs.length<=1000) (h3:ls.length<=1000) (h4: ∀l∈ls,l.length<4611686018427387904):aA Tryz.prog 344 [X0 c sl s,Js ch rs gs ls] (E (ju c s.vars.length ch rs gs ls)):=by
 have v1:=aJ ch;have v2:=Dd rs oO;have v3:=mR ls 425 [VO] (fun l=> !l.all c9) oO fun l hl=>Dd l (h4 l hl)
 rw[lV]at v3;have v4:=lT gs _ _ oO Lm;rw[lV]at v4;have v5:=XM 427 [.pt (X0 c sl s) 0];obtain⟨gq,vs,es⟩:=s;unfold G4 at v2;simp only[X0,Js,ju]at v5⊢;have l1:(rs.map eC).length=rs.length:=aE ..;have l2:(vs.map dO).length=vs.length:=aE ..;have l3:(gs.map PV.s).length=gs.length:=aE ..;have l4:(ls.map G4).length=ls.length:=aE ..
 by_cases hok:(aa ch&&rs.all c9&&ls.all (fun l=>l.all c9)&&gs.all aa)=true
 ·rw[hok];simp only[aY]at hok;obtain⟨⟨⟨o1,o2⟩,o3⟩,o4⟩:=hok;rw[o1]at v1;rw[o2]at v2;rw[o3]at v3;rw[o4]at v4
  by_cases hm:rs.length≠vs.length\/gs≠[]\/ls≠[]
  ·simp only[bR,aX,if_false,if_pos hm];have hm':rs.length≠vs.length\/(rs.length=vs.length/\gs.length≠0)\/(rs.length=vs.length/\gs.length=0/\ls.length≠0):=by
    rcases hm with h|h|h
    ·exact .inl h
    ·have:gs.length≠0:=fun h0=>h (gJ.1 h0)
     omega
    ·have:ls.length≠0:=fun h0=>h (gJ.1 h0)
     omega
   clear hm v5 o2 o3 o4 h4;rcases hm' with h|⟨h,h'⟩|⟨h,h',h''⟩
   all_goals (
   refine eW Tryz.call344 Tryz.func344 ?_;repeat' first|simp only[go_sem,seval,aL,l1,l2,l3,l4]|refine cP v1 ?_|refine cV v2 ?_|refine cV v3 ?_|refine cP v4 ?_|refine sB ?_|apply xX<;>intro hc|refine⟨oD,?_⟩|exact oD|fail
   try trivial)
   all_goals fail "a"
  ·simp only[bR,aX,if_false,if_neg hm];have hm':rs.length=vs.length/\gs=[]/\ls=[]:=by
    refine⟨sP fun h=>hm (.inl h),sP fun h=>hm (.inr (.inl h)),sP fun h=>hm (.inr (.inr h))⟩
   obtain⟨e1,e2,e3⟩:=hm';subst e2;subst e3;have cm:=ri o1 vc;simp only[bH]at v3 v4;clear hm h4
   by_cases hge:num c<=num ch
   ·rw[if_pos hge];have h7: ∀ _:True,(0:Int)<=aU (num ch) (num c):=fun _=>jW.2 hge
    have h5: ∀ _:True,decide (aU (num ch) (num c)>=0)=true:=fun _=>decide_eq_true (h7 trivial)
    generalize aU (num ch) (num c)=z at*;refine eW Tryz.call344 Tryz.func344 ?_;repeat' first|simp only[go_sem,seval,aL,l1,l2,h5 trivial]|refine cP v1 ?_|refine cV v2 ?_|refine cV v3 ?_|refine cP v4 ?_|refine cP cm ?_|(refine ah ?_)|refine sB ?_|apply xX<;>intro hc|refine⟨oD,?_⟩|exact oD|fail
   ·rw[if_neg hge];have h7: ∀ _:True,¬(0:Int)<=aU (num ch) (num c):=fun _ h=>hge (jW.1 h)
    have h5: ∀ _:True,decide (aU (num ch) (num c)>=0)=false:=fun _=>decide_eq_false (h7 trivial)
    generalize aU (num ch) (num c)=z at*;refine eW Tryz.call344 Tryz.func344 ?_;repeat' first|simp only[go_sem,seval,aL,l1,l2,h5 trivial]|refine cP v1 ?_|refine cV v2 ?_|refine cV v3 ?_|refine cP v4 ?_|refine cP cm ?_|refine cV v5 ?_|(refine ah ?_)|refine sB ?_|apply xX<;>intro hc|refine⟨oD,?_⟩|exact oD|fail
 ·have hf:(aa ch&&rs.all c9&&ls.all (fun l=>l.all c9)&&gs.all aa)=false:=by simpa using hok
  rw[hf];simp only[bZ,if_true];clear hok v5 h4;generalize aa ch=b1 at*;generalize rs.all c9=b2 at*;generalize (ls.all fun l=>l.all c9)=b3 at*
  generalize gs.all aa=b4 at*;cases b1
  ·refine eW Tryz.call344 Tryz.func344 ?_;repeat' first|simp only[go_sem,seval,aL,l1,l2,l3,l4]|refine cP v1 ?_|refine cV v2 ?_|refine cV v3 ?_|refine cP v4 ?_|refine sB ?_|apply xX<;>intro hc|refine⟨oD,?_⟩|exact oD|fail
  ·cases b2
   ·refine eW Tryz.call344 Tryz.func344 ?_;repeat' first|simp only[go_sem,seval,aL,l1,l2,l3,l4]|refine cP v1 ?_|refine cV v2 ?_|refine cV v3 ?_|refine cP v4 ?_|refine sB ?_|apply xX<;>intro hc|refine⟨oD,?_⟩|exact oD|fail
   ·cases b3
    ·refine eW Tryz.call344 Tryz.func344 ?_;repeat' first|simp only[go_sem,seval,aL,l1,l2,l3,l4]|refine cP v1 ?_|refine cV v2 ?_|refine cV v3 ?_|refine cP v4 ?_|refine sB ?_|apply xX<;>intro hc|refine⟨oD,?_⟩|exact oD|fail
    ·cases b4
     ·refine eW Tryz.call344 Tryz.func344 ?_;repeat' first|simp only[go_sem,seval,aL,l1,l2,l3,l4]|refine cP v1 ?_|refine cV v2 ?_|refine cV v3 ?_|refine cP v4 ?_|refine sB ?_|apply xX<;>intro hc|refine⟨oD,?_⟩|exact oD|fail
     ·exact absurd hf (by simp)
abbrev Zm:PV:= .agg [.sl [], .s [], .sl []]
abbrev B0:PV:= .agg [.sl [], .sl []]
theorem IZ {c sl:Bytes} (hr:qU c sl) {s:dJ} {ch:Bytes} {rs:List (Bool×Bytes)} {gs:List Bytes} {ls:List (List (Bool×Bytes))} (h1:rs.length<1000000) (h2:gs.length<=1000) (h3:ls.length<=1000) (h4: ∀l∈ls,l.length<4611686018427387904) (hf:ju c s.vars.length ch rs gs ls≠0):
  aA Tryz.prog 232 [X0 c sl s,Js ch rs gs ls] (.tup [Zm,B0,E (ju c s.vars.length ch rs gs ls)]):=by
 have hfo:=AZ (c:=c) (sl:=sl) hr.vc s ch rs gs ls h1 h2 h3 h4;have hb:(ju c s.vars.length ch rs gs ls==0)=false:=by simpa using hf
 generalize ju c s.vars.length ch rs gs ls=e at*;obtain⟨gq,vs,es⟩:=s;simp only[X0,Js]at hfo⊢;refine eW Tryz.call232 Tryz.func232 ?_;repeat' first|simp only[go_sem,seval,hb]|refine cP hfo ?_|refine sB ?_|apply xX<;>intro hc|refine⟨oD,?_⟩|exact oD|fail
 all_goals skip
abbrev D0:Bytes:=[100,111,109,105,110,111,32,112,114,111,111,102]
abbrev FL:Bytes:=[99,111,110,116,101,120,116]
abbrev Qz:Bytes:=[102,111,114,109,117,108,97]
abbrev UK:Bytes:=[102,105,114,115,116]
def GN (ctx:Bytes) (s:dJ) (fs:List Bytes):Bytes:=jH (jv (qV (jv (r5 D0) FL ctx) s) Qz []) UK fs
theorem EE {c sl:Bytes} (s:dJ) (x:PV) (n:Bytes):aA Tryz.prog 233 [X0 c sl s,B0, .s n] (.b true):=by
 obtain⟨gq,vs,es⟩:=s;simp only[X0];refine eW Tryz.call233 Tryz.func233 ?_;exact z0
noncomputable def uO (s:dJ) (ch:Bytes) (rs:List (Bool×Bytes)):List Bytes:=s.eqs.map fun q=>aO (mJ s.groups ch rs q)
theorem Iy {c:Bytes} {nv:Nat} {ch:Bytes} {rs:List (Bool×Bytes)} {gs:List Bytes} {ls:List (List (Bool×Bytes))} (h:ju c nv ch rs gs ls=0):gs=[]/\ls=[]:=by
 unfold ju at h
 split at h
 ·exact absurd h oC
 ·split at h
  ·exact absurd h oC
  ·rename_i hm;exact⟨sP fun h=>hm (.inr (.inl h)),sP fun h=>hm (.inr (.inr h))⟩
end Go.Proofs.YtfdjchnefpefbaaGreatDoor
namespace Go.Proofs.YtfdjchnefpefbaaGreatDoor
open Go Go.Dom Go.Num
set_option maxRecDepth 100000
def yB (vs:List Bytes) (sd:Bytes) (i M:Nat):Except Int Int:=
 match fA vs sd i (aO (2*M-1))with
 | .error e=> .error e
 | .ok x=> .ok ((num x:Int)-(M-1:Nat))
theorem As (st:Bytes) {c:Bytes} (h:2<=num c):kC st c<num c:=aD _ oO
theorem QE {f:Nat->Bytes} {n:Nat} {x:Bytes}: ∀{k a:Nat},pU f n a k=some x->num x<n/\ ∃b,x=f b:=by
 intro k
 induction k with
 |zero=>intro a h;cases h
 |succ k ih=>
  intro a h;rw[pU]at h
  split at h
  ·rename_i hlt;injection h with h
   subst h;exact⟨hlt,a,rfl⟩
  ·exact ih h
theorem fK {vs:List Bytes} {sd:Bytes} {i:Nat} {n x:Bytes} (hv:vs.all aa=true) (hn:aa n=true) (hl:vs.length<1000000) (hi:i<=2147483647) (h:fA vs sd i n= .ok x):aa x=true/\num x<num n/\i+1<=2147483647:=by
 unfold fA at h
 split at h
 ·rename_i hiv
  split at h
  ·cases h
  ·rename_i hlt;injection h with h
   subst h;exact⟨bz.1 hv _ (xu hiv),by omega,by omega⟩
 ·split at h
  ·cases h
  ·rename_i hs;have hi2:i≠2147483647:=fun e=>hs (.inr e)
   split at h
   ·rename_i y hy;injection h with h
    subst h;obtain⟨h1,b,hb⟩:=QE hy;exact⟨by rw[hb];exact qk sd i b (wQ hn),h1,by omega⟩
   ·cases h
theorem Nk {vs:List Bytes} {sd:Bytes} {i M:Nat} {z:Int} (hv:vs.all aa=true) (h1:1<=M) (h2:2*M<dw) (hl:vs.length<1000000) (hi:i<=2147483647) (h:yB vs sd i M= .ok z):z.natAbs<M/\i+1<=2147483647:=by
 unfold yB at h
 split at h
 ·cases h
 ·rename_i x hx;obtain⟨-,h3,h4⟩:=fK hv (vB oO) hl hi hx;rw[aG]at h3;injection h with h
  subst h;exact⟨by omega,h4⟩
theorem mW {vs:List Bytes} {sd:Bytes} {i:Nat} {n:Bytes} {e:Int} (h:fA vs sd i n= .error e):e=2\/e=14:=by
 unfold fA at h
 split at h
 ·split at h
  ·injection h with h;exact .inl h.symm
  ·cases h
 ·split at h
  ·injection h with h;exact .inr h.symm
  ·split at h
   ·cases h
   ·injection h with h;exact .inr h.symm
theorem Jr {vs:List Bytes} {sd:Bytes} {i M:Nat} {e:Int} (h:yB vs sd i M= .error e):e=2\/e=14:=by
 unfold yB at h
 split at h
 ·rename_i e' he;injection h with h
  subst h;exact mW he
 ·cases h
theorem Bf {x:Bytes} (h:aa x=true):lO (num x:Int)=(false,x):=by
 have e:aO (num x)=x:=by have:=eV h;injection this
 simp[lO,zs,zb,e]
end Go.Proofs.YtfdjchnefpefbaaGreatDoor
namespace Go.Proofs.YtfdjchnefpefbaaGreatDoor
open Go Go.Dom Go.Num
set_option maxRecDepth 100000
set_option maxHeartbeats 16000000
def rY (vs:List Bytes) (sd:Bytes) (i:Nat):Except Int Int->PV
 | .ok z=> .tup [Z z,T vs sd (i+1:Nat),E 0]
 | .error e=> .tup [.agg [.b false, .s []],T [] [] 0,E e]
theorem zw {vs:List Bytes} {sd:Bytes} {i M:Nat} (hv:vs.all aa=true) (hi:i<=2147483647) (hl:vs.length<1000000) (hsd:sd.length<1000000) (h1:1<=M) (h2:3*M<dw):aA Tryz.prog 284 [T vs sd i,N M] (rY vs sd i (yB vs sd i M)):=by
 have hM:aO M≠[]:=by rw[ne_eq,fW];omega
 have hN:aa (aO (2*M-1))=true:=vB oO;have hr:=rU vs sd i (aO M) oO;rw[FG hv (vB oO) hM hi]at hr;have ha:=Oq (a:=M) (b:=M) oO;have hs:=uW (a:=M) (b:=1) oO oO;have ho:=uW (a:=M+M) (b:=1) oO oO;have hd:=xg (sd:=sd) hv hN (by rw[aG];omega) hi hl hsd
 rw[<-ey]at hs ho;rw[show M+M-1=2*M-1 by omega]at ho
 unfold yB;generalize hD:fA vs sd i (aO (2*M-1))=r at*
 cases r with
 |error e=>
  unfold ic at hd;unfold rY;rcases mW hD with rfl|rfl
  ·refine eW Tryz.call284 Tryz.func284 ?_;exact z5 @hr @ha @hs @ho @hd
  ·refine eW Tryz.call284 Tryz.func284 ?_;exact z5 @hr @ha @hs @ho @hd
 |ok x=>
  obtain⟨vx,hx,-⟩:=fK hv hN hl hi hD;rw[aG]at hx;have hz:=Rl (x:=(num x:Int)) (y:=((M-1:Nat):Int)) oO;have e1:Z (num x:Int)= .agg [.b false, .s x]:=by rw[<-Pw,Bf vx];rfl
  have e2:Z ((M-1:Nat):Int)= .agg [.b false,N (M-1)]:=rfl;rw[e1,e2]at hz;unfold ic at hd;unfold rY;simp only;refine eW Tryz.call284 Tryz.func284 ?_;exact z6 @hr @ha @hs @ho @hd @hz
theorem Ew:dV Zp 2:=⟨fun _=>rfl,fun x y hy=>by simp[Zp,eC,lO,PV.cells]at hy;rcases hy with rfl|rfl<;>rfl,fun h=>by omega,fun _ x=>rfl⟩
def LS (vs:List Bytes) (sd:Bytes) (j:Nat):Except Int (List Int)->PV
 | .ok ms=> .tup [.sl (ms.map Zp),T vs sd j,E 0]
 | .error e=> .tup [.sl [],T [] [] 0,E e]
theorem Bm {c sl b:Bytes} (hr:qU c sl) (vb:aa b=true) (hb:b≠[]) (lb:b.length<=16):1<=xI c sl b/\3*xI c sl b<dw:=by
 have h1:=hr.c2;have h2:=hr.s2;have h3:=xY vb hb;unfold xI;refine⟨nT (nT oO oO) oO,?_⟩;have g1:num sl<256^8:=bj (cb sl) (cI oC hr.ls);have g2:num c<256^8:=bj (cb c) (cI oC hr.lc);have g3:num b<256^16:=bj (cb b) (cI oC lb);have g4:num sl*num c*num b<=256^8*256^8*256^16:=jP (jP (jR g1) (jR g2)) (jR g3);exact ec (iw 3 g4) (by unfold dw;decide+kernel)
theorem HS (ms:List Int) (z:Int):bO Zp (ms++[z])=bO Zp ms++[.v (.b (zs z)), .v (.s (zb z))]:=by rw[dh];rfl
end Go.Proofs.YtfdjchnefpefbaaGreatDoor
namespace Go.Proofs.YtfdjchnefpefbaaGreatDoor
open Go Go.Dom
set_option maxRecDepth 100000
set_option maxHeartbeats 16000000
theorem EU {a b:Bytes} (ha:aa a=true) (hb:aa b=true) (h0:0<num b):aA Tryz.prog 253 [.s a, .s b] (.tup [N (num a/num b),N (num a%num b)]):=by
 by_cases h:a.length<=8\/num a<num b
 ·exact tw ha hb h0 h
 ·exact Im ha hb h0 oO oO
theorem N5 {a b:Nat} (ha:a<dw) (hb:b<dw) (h0:0<b):aA Tryz.prog 145 [N a,N b] (.tup [N (a/b),N (a%b),E 0]):=by
 have va:=py ha;have vb:=py hb;have hd:=EU va vb (by rw[aG];exact h0)
 have v1:=aJ (aO a);have v2:=aJ (aO b);have hz:=rG (n:=b) oO;rw[va]at v1;rw[vb]at v2;rw[aG,aG]at hd;refine eW Tryz.call145 Tryz.func145 ?_;exact JJ @hz @v1 @v2 @hd
end Go.Proofs.YtfdjchnefpefbaaGreatDoor
namespace Go.Proofs.YtfdjchnefpefbaaGreatDoor
open Go Go.Dom Go.Num
set_option maxRecDepth 100000
set_option maxHeartbeats 16000000
def mX (o c sl:Bytes) (vs:List Bytes) (sd b:Bytes) (i:Nat):Except Int Int:=
 if b=[]then(match fA vs sd i o with
  | .error e=> .error e
  | .ok x=> .ok (num x:Int))else yB vs sd i (xI c sl b)
def mK (o c sl:Bytes) (vs:List Bytes) (sd:Bytes):List Bytes->Nat->List Int->Except Int (List Int)
 |[],_,acc=> .ok acc
 |b::us,i,acc=>match mX o c sl vs sd b i with
  | .error e=> .error e
  | .ok z=>mK o c sl vs sd us (i+1) (acc++[z])
theorem xj {o c sl:Bytes} {vs:List Bytes} {sd b:Bytes} {i:Nat} {e:Int} (h:mX o c sl vs sd b i= .error e):e=2\/e=14:=by
 unfold mX at h
 split at h
 ·split at h
  ·rename_i e' he;injection h with h
   subst h;exact mW he
  ·cases h
 ·exact Jr h
theorem Dt {o c sl:Bytes} {vs:List Bytes} {sd:Bytes} {e:Int}: ∀{us:List Bytes} {i:Nat} {acc:List Int},mK o c sl vs sd us i acc= .error e->e=2\/e=14:=by
 intro us
 induction us with
 |nil=>intro i acc h;cases h
 |cons b us ih=>
  intro i acc h;rw[mK]at h
  split at h
  ·rename_i e' he;injection h with h
   subst h;exact xj he
  ·exact ih h
theorem Dw {o:Bytes} (h:o.length<=8):num o<dw:=bj (dY h) (by unfold dw;decide+kernel)
theorem Rq {o c sl b:Bytes} (hr:qU c sl) (lo:o.length<=8) (lb:b.length<=16):lM o c sl b<dw:=by
 unfold lM;split
 ·exact Dw lo
 ·exact Bl hr lb
theorem AP {o c sl:Bytes} {vs:List Bytes} {sd b:Bytes} {i:Nat} {z:Int} (hr:qU c sl) (vo:aa o=true) (hb:aa b=true/\b.length<=16) (hv:vs.all aa=true) (hl:vs.length<1000000) (hi:i<=2147483647) (h:mX o c sl vs sd b i= .ok z):js b z (lM o c sl b)=true/\i+1<=2147483647:=by
 unfold mX at h
 split at h
 ·rename_i hb0
  split at h
  ·cases h
  ·rename_i x hx;injection h with h
   subst h;obtain⟨-,h2,h3⟩:=fK hv vo hl hi hx;refine⟨?_,h3⟩;simp only[js,lM,hb0,if_true,aY,decide_eq_true_eq,fE,cf,decide_eq_false_iff_not,decide_true];omega
 ·rename_i hb0;have hm:=Bm hr hb.1 hb0 hb.2;obtain⟨h2,h3⟩:=Nk hv hm.1 oO hl hi h;refine⟨?_,h3⟩;simp only[js,lM,hb0,if_false,decide_false,dH,bZ,pN,decide_eq_true_eq];exact h2
theorem PL {o c sl:Bytes} {vs:List Bytes} {sd:Bytes} (hr:qU c sl) (vo:aa o=true) (hv:vs.all aa=true) (hl:vs.length<1000000): ∀(us:List Bytes) (i:Nat) (acc l:List Int),(∀b∈us,aa b=true/\b.length<=16)->i<=2147483647->mK o c sl vs sd us i acc= .ok l-> ∃r,l=acc++r/\r.length=us.length/\(∀j,j<us.length->js (us.getD j []) (r.getD j 0) (lM o c sl (us.getD j []))=true)/\i+us.length<=2147483647:=by
 intro us
 induction us with
 |nil=>intro i acc l _ hi h;injection h with h;exact⟨[],by simp[h],rfl,(fun j hj=>(mD _ hj).elim),hi⟩
 |cons b us ih=>
  intro i acc l hb hi h;rw[mK]at h
  split at h
  ·cases h
  ·rename_i z hz;obtain⟨h3,h4⟩:=AP hr vo (hb b (.head _)) hv hl hi hz;obtain⟨r,h5,h6,h7,h8⟩:=ih _ _ _ (fun b' hm=>hb b' (.tail _ hm)) h4 h
   refine⟨z::r,by rw[h5];simp,by simp[h6],?_,by simp;omega⟩
   intro j hj
   cases j with
   |zero=>exact h3
   |succ j=>exact h7 j (by simpa using hj)
theorem Bd {b:Bytes} {x:Int} {L:Nat} (h:js b x L=true):x.natAbs<L/\(b=[]->0<=x):=by
 simp only[js,aY,decide_eq_true_eq,fE,Bool.and_eq_false_imp,decide_eq_false_iff_not]at h;exact⟨h.1,fun hb=>by have:=h.2 hb;omega⟩
theorem xS {c sl:Bytes} {s:dJ} (hp:Gg c sl s) {vs:List Bytes} {sd:Bytes} {i:Nat} (hv:vs.all aa=true) (hi:i<=2147483647) (hl:vs.length<1000000) {ms:List Int} (h:mK (bT s.groups) c sl vs sd s.vars i []= .ok ms):
  ms.length=s.vars.length/\(∀j,j<s.vars.length->js (s.vars.getD j []) (ms.getD j 0) (lM (bT s.groups) c sl (s.vars.getD j []))=true)/\i+s.vars.length<=2147483647/\ ∀x∈ms,x.natAbs<dw:=by
 have ho:=fq hp.g.g;obtain⟨r,h1,h2,h3,h4⟩:=PL hp.r ho.1 hv hl _ _ _ _ hp.g.v hi h;rw[List.nil_append]at h1;subst h1;refine⟨h2,h3,h4,fun x hx=> ?_⟩
 obtain⟨j,hj,rfl⟩:=gN hx;have:=(Bd (h3 j oO)).1;rw[aR,bJ hj]at this;exact ix this (Rq hp.r ho.2 (hp.g.v _ (az [] oO)).2)
theorem TK {a:Bytes} (h:a.length<=16):num a<256^16:=bj (cb a) (cI oC h)
theorem VA {s:dJ} (hs:CI s) {w:List Int} (hwl:w.length=s.vars.length) (hw: ∀x∈w,x.natAbs<256^100):WS s w:=by
 intro q hq t ht;obtain⟨t1,t2,t3,t4⟩:=(hs.q q hq).2.2.2.2 t ht;have hl:=((hs.b.q q hq).2 t ht);have hx:=hw _ (az 0 (show t.var.toNat<w.length by omega))
 refine⟨t1,by omega,t4,ix hx (by unfold dw;exact Cc oC oC),?_⟩
 rw[CC];refine ec (jP (jR (TK hl)) (jR hx)) ?_;unfold dw;rw[<-ct];exact Cc oC oC
theorem LJ {o c sl b:Bytes} (hr:qU c sl) (lo:o.length<=8) (lb:b.length<=16):lM o c sl b<256^33:=by
 unfold lM;split
 ·exact bj (dY lo) (by decide+kernel)
 ·have h1:num sl*num c<18446744073709551616*18446744073709551616:=fR (dY hr.ls) (dY hr.lc);have h2:xI c sl b<18446744073709551616*18446744073709551616*cZ:=fR h1 (Hb lb);exact bj h2 (by unfold cZ;decide+kernel)
theorem O5 {c sl:Bytes} {s:dJ} (hp:Gg c sl s) (ho:[]∈s.vars->bT s.groups≠[]) {vs:List Bytes} {sd:Bytes} {i:Nat} (hv:vs.all aa=true) (hi:i<=2147483647) (hl:vs.length<1000000) (hsd:sd.length<1000000):
  aA Tryz.prog 175 [s.pv, .sl (s.vars.map (lP (bT s.groups) c sl)),T vs sd i] (LS vs sd (i+s.vars.length) (mK (bT s.groups) c sl vs sd s.vars i [])):=by
 have hb:=hp.g.v;have nv:=hp.g.nv;have hr:=hp.r;have vo:=(fq hp.g.g).1;obtain⟨gs,us,es⟩:=s;simp only at hb nv ho vo⊢;clear hp;generalize bT gs=o at*;have l2:(us.map dO).length=us.length:=aE ..;have l3:(us.map (lP o c sl)).length=us.length:=aE ..;obtain⟨R0,hR0⟩: ∃R0,R0=mK o c sl vs sd (us.drop 0) i []:=⟨_,rfl⟩;rw[show mK o c sl vs sd us i []=mK o c sl vs sd (us.drop 0) i []from rfl,<-hR0]
 unfold dJ.pv;simp only
 by_cases hpos:0<us.length
 rotate_left
 ·obtain rfl:us=[]:=gJ.1 oO;rw[List.drop_nil,mK]at hR0;subst hR0;refine eW Tryz.call175 Tryz.func175 ?_;exact U2
 refine eW Tryz.call175 Tryz.func175 ?_;refine eF @l2 ?_;refine ah ?_;have hz0:0<us.length:=hpos;have e1:=getD_map dO us [] hpos;have e2:=getD_map (lP o c sl) us [] hpos;have kb:=hb _ (az [] hpos);have hk:=nO (us.getD 0 []);have hdo:=fun hi z (h:mX o c sl vs sd (us.getD 0 []) i= .ok z)=>(AP (i:=i) hr vo kb hv hl hi h).2
 have hcs:(us.getD 0 []=[]/\ ∀ _:i<=2147483647,aA Tryz.prog 76 [T vs sd (i:Nat),N (lM o c sl (us.getD 0 []))] (match mX o c sl vs sd (us.getD 0 []) i with
   | .ok z=> .tup [.s (zb z),T vs sd ((i+1:Nat):Int),E 0]
   | .error e=> .tup [.s [],T [] [] 0,E e])/\ ∀z,mX o c sl vs sd (us.getD 0 []) i= .ok z->zs z=false)\/(us.getD 0 []≠[]/\ ∀ _:i<=2147483647,aA Tryz.prog 284 [T vs sd (i:Nat),N (lM o c sl (us.getD 0 []))] (rY vs sd i (mX o c sl vs sd (us.getD 0 []) i))):=by
  by_cases h:us.getD 0 []=[]
  ·refine .inl ⟨h,fun hi=> ?_⟩
   have hbl:=sV (sd:=sd) (n:=o) hv vo (ho (by rw[<-h];exact az [] hpos)) hi hl hsd
   rw[lM,if_pos h,eV vo];unfold mX;rw[if_pos h]
   cases hd:fA vs sd (i) o with
   |error e=>
    rw[hd]at hbl;exact⟨hbl,fun z hz=>by cases hz⟩
   |ok x=>
    have hx:=(fK hv vo hl hi hd).1;rw[hd]at hbl;refine⟨?_,fun z hz=>by dsimp only at hz;injection hz with hz;subst hz;simp[zs]⟩
    dsimp only;rw[show zb (num x:Int)=x from by rw[zb,Int.natAbs_natCast];exact fF hx]
    exact hbl
  ·have hm:=Bm hr kb.1 h kb.2;refine .inr ⟨h,fun hi=> ?_⟩
   rw[lM,if_neg h,mX,if_neg h];exact zw (vs:=vs) (sd:=sd) (i:=i) hv hi hl hsd hm.1 hm.2
 rw[aT [] hpos,mK]at hR0;clear kb;generalize us.getD 0 []=u at*;simp only[dO]at e1 hk;simp only[lP]at e2;generalize lM o c sl u=M at*;generalize lR o c sl u=Rr at*;rcases hcs with⟨hu,hg⟩|⟨hu,hg⟩
 all_goals
  first|rw[if_pos hu]at hk|rw[if_neg hu]at hk
  have hg:=hg hi
  cases hsg:mX o c sl vs sd u i with
  |error e=>
   rw[hsg]at hg hR0;simp only[rY]at hg hR0;have he:(e !=0)=true:=by rcases xj hsg with rfl|rfl<;>rfl
   subst hR0
   first
    |have hg:=hg.1
    |skip
   exact RU (aN @l2 (aN @l3 (aN @e1 (aN @e2 @he)))) @hk @hg
  |ok z=>
   have hsi:i+(0+1)<=2147483647:=hdo hi z hsg;rw[hsg]at hg hR0;simp only[rY]at hg hR0
   first
    |(have hzz:=hg.2 z rfl
      have hg:=hg.1)
    |have hzz:zs z=zs z:=rfl
   refine sT (aN @l2 (aN @l3 (aN @e1 @e2))) @hk @hg ?_;obtain⟨nm,hnm⟩: ∃nm,nm=(if u=[]then 1042 else 1041):=⟨_,rfl⟩
   first|rw[if_pos hu]at hnm|rw[if_neg hu]at hnm
   clear e1 e2 hk hg hdo hu;refine af (α:=Nat×List Int) (fun p=>us.length-(p.1+1)) (fun p=>⟨[(1, .v (.sl (us.map (lP o c sl)))),(3, .p 1000 0 0),(5, .p 1001 0 0),(7, .p 1003 0 0),(9, .rs nm p.1 0 (p.1+1) 2),(15, .v (.sl (us.map dO))),(16,E' us.length),(17,E' (p.1+1))],[(1000,⟨0,[.v (.sl (gs.map gO)), .v (.sl (us.map dO)), .v (.sl (es.map eH.pv))],false,none⟩),(1001,⟨0,[.v (.sl (vs.map .s)), .v (.s sd), .v (.i .i64 ((i+(p.1+1):Nat):Int))],false,none⟩),(1003,⟨0,[.sn, .v (.s []), .v (.i .i64 0)],false,some 29⟩),(nm,⟨p.1,bO Zp p.2,true,some 89⟩)],1045⟩) (fun p=>p.1+1<=us.length/\p.2.length=p.1+1/\i+(p.1+1)<=2147483647/\R0=mK o c sl vs sd (us.drop (p.1+1)) (i+(p.1+1)) p.2) (0,[z]) (fun _=>cC rfl) ⟨hpos,rfl,hsi,hR0⟩ ?_ ?_<;>subst hnm
   ·refine lG ?_;all_goals exact⟨by first|rfl|(rw[<-hzz];rfl),fun c hc=>eu hc⟩
   ·clear hzz hR0 hsi;rintro⟨j,ms⟩ ⟨hj,hlm,hij,hR0⟩ R hR;simp only at hj hlm hij hR0;have q1:=de Ew ms;have q2:=dK Ew ms;rw[hlm]at q1 q2
    by_cases hlt:j+1<us.length
    ·have e1:=getD_map dO us [] hlt;have e2:=getD_map (lP o c sl) us [] hlt;have kb:=hb _ (az [] hlt);have hk:=nO (us.getD (j+1) []);have hdo:=fun hi z (h:mX o c sl vs sd (us.getD (j+1) []) (i+(j+1))= .ok z)=>(AP (i:=(i+(j+1))) hr vo kb hv hl hi h).2
     have hcs:(us.getD (j+1) []=[]/\ ∀ _:(i+(j+1))<=2147483647,aA Tryz.prog 76 [T vs sd ((i+(j+1)):Nat),N (lM o c sl (us.getD (j+1) []))] (match mX o c sl vs sd (us.getD (j+1) []) (i+(j+1))with
       | .ok z=> .tup [.s (zb z),T vs sd (((i+(j+1))+1:Nat):Int),E 0]
       | .error e=> .tup [.s [],T [] [] 0,E e])/\ ∀z,mX o c sl vs sd (us.getD (j+1) []) (i+(j+1))= .ok z->zs z=false)\/(us.getD (j+1) []≠[]/\ ∀ _:(i+(j+1))<=2147483647,aA Tryz.prog 284 [T vs sd ((i+(j+1)):Nat),N (lM o c sl (us.getD (j+1) []))] (rY vs sd (i+(j+1)) (mX o c sl vs sd (us.getD (j+1) []) (i+(j+1))))):=by
      by_cases h:us.getD (j+1) []=[]
      ·refine .inl ⟨h,fun hi=> ?_⟩
       have hbl:=sV (sd:=sd) (n:=o) hv vo (ho (by rw[<-h];exact az [] hlt)) hi hl hsd
       rw[lM,if_pos h,eV vo];unfold mX;rw[if_pos h]
       cases hd:fA vs sd ((i+(j+1))) o with
       |error e=>
        rw[hd]at hbl;exact⟨hbl,fun z hz=>by cases hz⟩
       |ok x=>
        have hx:=(fK hv vo hl hi hd).1;rw[hd]at hbl;refine⟨?_,fun z hz=>by dsimp only at hz;injection hz with hz;subst hz;simp[zs]⟩
        dsimp only;rw[show zb (num x:Int)=x from by rw[zb,Int.natAbs_natCast];exact fF hx]
        exact hbl
      ·have hm:=Bm hr kb.1 h kb.2;refine .inr ⟨h,fun hi=> ?_⟩
       rw[lM,if_neg h,mX,if_neg h];exact zw (vs:=vs) (sd:=sd) (i:=(i+(j+1))) hv hi hl hsd hm.1 hm.2
     rw[aT [] hlt,mK]at hR0;clear kb;generalize us.getD (j+1) []=u at*;simp only[dO]at e1 hk;simp only[lP]at e2;generalize lM o c sl u=M at*;generalize lR o c sl u=Rr at*;rcases hcs with⟨hu,hg⟩|⟨hu,hg⟩
     all_goals
      first|rw[if_pos hu]at hk|rw[if_neg hu]at hk
      have hg:=hg hij
      cases hsg:mX o c sl vs sd u (i+(j+1))with
      |error e=>
       rw[hsg]at hg hR0;simp only[rY]at hg hR0;have he:(e !=0)=true:=by rcases xj hsg with rfl|rfl<;>rfl
       subst hR0;clear hR
       first
        |have hg:=hg.1
        |skip
       exact RU (aN @l2 (aN @l3 (aN @e1 (aN @e2 (aN @he (aN @q1 @q2)))))) @hk @hg
      |ok y=>
       have hsi:i+(j+1+1)<=2147483647:=hdo hij y hsg;rw[hsg]at hg hR0;simp only[rY]at hg hR0;have hgo:=hR (j+1,ms++[y]) ⟨by omega,by simp[hlm],hsi,hR0⟩ (by simp only;omega)
       simp only[HS]at hgo
       first
        |(have hzz:=hg.2 y rfl
          have hg:=hg.1;rw[hzz]at hgo)
        |skip
       clear hR;refine sT (aN @l2 (aN @l3 (aN @e1 (aN @e2 (aN @q1 @q2))))) @hk @hg ?_;refine hgo _ ?_;refine lG ?_;all_goals exact⟨by omega,fun c hc=>by rcases hc with hc|rfl|rfl<;>first|exact eu hc|rfl⟩
    ·have hjl:us.length=j+1:=by omega
     rw[iO oO]at hR0;simp only[mK]at hR0;subst hR0;have q3:=fk Ew ms;have q4:=dA Ew ms;rw[hlm]at q4;rw[hjl];clear hR;repeat' first|simp only[go_sem,seval,l2,hjl,q1,q2,q3,q4,e9]|refine sB ?_|apply xX<;>intro hc|refine⟨oD,?_⟩|exact oD|fail
     all_goals rfl
noncomputable def KH (s:dJ) (vs:List Bytes) (sd:Bytes) (j:Nat):Except Int (List Int)->PV
 | .ok ms=> .tup [.sl (ms.map Zp), .sl ((xy s ms).map .s),T vs sd j,E 0]
 | .error e=> .tup [.sl [], .sl [],T [] [] 0,E e]
theorem Bi {s:dJ} (h:CI s) (hv:[]∈s.vars):bT s.groups≠[]:=by
 have hk:=h.k;unfold E7 at hk;rw[List.any_eq_true.2 ⟨[],hv,rfl⟩]at hk;simp only[bR,ka,aY,fE,beq_eq_false_iff_ne]at hk;exact hk.1.1
theorem HV {c sl:Bytes} {s:dJ} (hp:Gg c sl s) {vs:List Bytes} {sd:Bytes} {i:Nat} (hv:vs.all aa=true) (hi:i<=2147483647) (hl:vs.length<1000000) (hsd:sd.length<1000000):
  aA Tryz.prog 99 [.agg [.s c, .s sl],s.pv,T vs sd i] (KH s vs sd (i+s.vars.length) (mK (bT s.groups) c sl vs sd s.vars i [])):=by
 have hb:=yt hp;have hd:=O5 hp (Bi hp.g) (vs:=vs) (sd:=sd) (i:=i) hv hi hl hsd
 cases hR:mK (bT s.groups) c sl vs sd s.vars i []with
 |error e=>
  have he:(e !=0)=true:=by rcases Dt hR with rfl|rfl<;>rfl
  rw[hR]at hd;obtain⟨gs,us,es⟩:=s;simp only[LS,KH,dJ.pv]at hb hd⊢;refine eW Tryz.call99 Tryz.func99 ?_;exact RU @he @hb @hd
 |ok ms=>
  obtain⟨f1,f2,f3,f4⟩:=xS hp hv hi hl hR;have hm:=N7 hp.g f1 f4 (VA hp.g f1 fun x hx=>by
   obtain⟨j,hj,rfl⟩:=gN hx;have:=(Bd (f2 j oO)).1;rw[aR,bJ hj]at this;exact ix (ix this (LJ hp.r (fq hp.g.g).2 (hp.g.v _ (az [] oO)).2)) (Cc oC oC))
  rw[hR]at hd;simp only[LS,KH]at hd⊢;generalize xy s ms=L at*;obtain⟨gs,us,es⟩:=s;simp only[dJ.pv]at hb hd hm⊢;refine eW Tryz.call99 Tryz.func99 ?_;exact z3 @hb @hd @hm
theorem PO {a m:Nat} (hm:0<m):(-(a:Int))%m=if a%m=0 then 0 else((m-a%m:Nat):Int):=by
 have h1:=gM a m;have h2:=aD a hm;split
 ·rename_i h;refine((Cj (a:= -(a:Int)) (b:=m) (r:=0) (q:= -((a/m:Nat):Int)) oO).2 ⟨?_,by omega,by omega⟩).2
  have:(a:Int)=m*(a/m:Nat):=by rw[<-Int.natCast_mul];omega
  rw[nQ,<-this];omega
 ·rename_i h;refine((Cj (a:= -(a:Int)) (b:=m) (r:=((m-a%m:Nat):Int)) (q:= -((a/m:Nat):Int)-1) oO).2 ⟨?_,by omega,by omega⟩).2
  have:(m:Int)*(a/m:Nat)+(a%m:Nat)=a:=by rw[<-Int.natCast_mul];omega
  rw[nY,nQ,Int.mul_one];omega
theorem Rk {x:Int} {m:Nat} (hx:x.natAbs<dw) (hm:m<dw) (h0:0<m):aA Tryz.prog 304 [Z x,N m] (.tup [N (x%m).toNat,E 0]):=by
 have v1:=BS hx;have v2:=aJ (aO m);rw[vB hm]at v2;have hd:=N5 hx hm h0;have hlt:=aD x.natAbs h0;have hs:=uW (a:=m) (b:=x.natAbs%m) oO hm;have hmb:(aO m==([]:Bytes))=false:=by
  rw[beq_eq_false_iff_ne,ne_eq,fW];omega
 have hr:(x%m).toNat=if x<0/\x.natAbs%m≠0 then m-x.natAbs%m else x.natAbs%m:=by
  by_cases hn:x<0
  ·have e:x= -(x.natAbs:Int):=by omega
   have h:=PO (a:=x.natAbs) h0;rw[<-e]at h;rw[h];split
   ·rename_i g;rw[if_neg (by simp[g])];omega
   ·rename_i g;rw[if_pos ⟨hn,g⟩];omega
  ·rw[if_neg (by simp[hn])]
   have e:x=(x.natAbs:Int):=by omega
   conv=>lhs;rw[e]
   rw[<-Int.natCast_emod,Int.toNat_natCast]
 rw[hr];have hbb: ∀ _:True,(aO (x.natAbs%m)==([]:Bytes))=decide (x.natAbs%m=0):=fun _=>by
  rw[dE,beq_iff_eq,fW,decide_eq_true_eq]
 generalize x.natAbs%m=r at*;have hzs:zs x=decide (x<0):=rfl;clear hx hlt hr;unfold Z at v1⊢
 by_cases h1:x<0
 ·rw[decide_eq_true h1]at hzs;rw[hzs]at v1⊢
  by_cases h2:r=0
  ·rw[decide_eq_true h2]at hbb;rw[if_neg (by simp[h2])]
   refine eW Tryz.call304 Tryz.func304 ?_;exact UY (aN @hmb (hbb trivial)) @v1 @v2 @hd @hs
  ·rw[decide_eq_false h2]at hbb;rw[if_pos ⟨h1,h2⟩];refine eW Tryz.call304 Tryz.func304 ?_;exact UY (aN @hmb (hbb trivial)) @v1 @v2 @hd @hs
 ·rw[decide_eq_false h1]at hzs;rw[hzs]at v1⊢;rw[if_neg (by simp[h1])]
  refine eW Tryz.call304 Tryz.func304 ?_;exact UY @hmb @v1 @v2 @hd @hs
theorem vH (b:Bytes) {x:Int} {L:Nat} (hx:x.natAbs<dw) (hL:L<dw):aA Tryz.prog 189 [dO b,Zp x,N L] (.b (js b x L)):=by
 have hk:=nO b;have hc:=rh hx hL;have hd: ∀ _:True,decide (aU x.natAbs L<0)=decide (x.natAbs<L):=fun _=>by rw[dE];simp only[decide_eq_true_eq];exact fX
 generalize aU x.natAbs L=cm at*;have hzs:zs x=decide (x<0):=rfl;rw[show N x.natAbs= .s (zb x)from rfl]at hc
 unfold js;generalize decide (x.natAbs<L)=p at*;generalize decide (x<0)=q at*;simp only[Zp,eC,lO]
 by_cases hb:b=[]
 ·rw[if_pos hb]at hk;rw[decide_eq_true hb,cf];unfold dO at hk⊢;refine eW Tryz.call189 Tryz.func189 ?_;exact U0 (aN (hd trivial) @hzs) @hc @hk
 ·rw[if_neg hb]at hk;rw[decide_eq_false hb,dH];unfold dO at hk⊢;refine eW Tryz.call189 Tryz.func189 ?_;exact U0 (aN (hd trivial) @hzs) @hc @hk
theorem QA {s:dJ} (hs:CI s) {w:List Int} (hwl:w.length=s.vars.length) (hw: ∀x∈w,x.natAbs<dw):aA Tryz.prog 188 [s.pv, .sl (w.map Zp)] (.b (Be (bT s.groups) s.vars w)):=by
 have hv:=hs.v;have nv:=hs.nv;have hor:=Ap s (by have:=hs.ng;omega)
 have hoV:=fq hs.g;obtain⟨gs,vs,es⟩:=s;simp only at hv hwl nv hor hoV⊢;have l2:(vs.map dO).length=vs.length:=aE ..;have l5:(w.map Zp).length=vs.length:=by rw[aE];exact hwl
 generalize bT gs=oq at*;unfold dJ.pv at*;simp only at*;refine eW Tryz.call188 Tryz.func188 ?_;refine zr @l2 @hor ?_;refine af (α:=Nat) (fun i=>vs.length-i) (fun i=>⟨[(1, .v (.sl (w.map Zp))),(2, .p 1000 0 0),(5, .v (.s oq)),(12, .v (.sl (vs.map dO))),(13,E' vs.length),(14,E' i)],[(1000,⟨0,[.v (.sl (gs.map gO)), .v (.sl (vs.map dO)), .v (.sl (es.map eH.pv))],false,none⟩)],_⟩) (fun i=>i<=vs.length/\ ∀j,j<i->js (vs.getD j []) (w.getD j 0) (fb oq (vs.getD j []))=true) 0 (fun _=>an _) ⟨aH _,fun j hj=>by omega⟩ ?_ ?_
 ·exact lE
 ·rintro i ⟨hi,hall⟩ R hR
  by_cases hlt:i<vs.length
  ·have e1:=getD_map dO vs [] hlt;have e2:=getD_map Zp w 0 (i:=i) oO;have kb:=hv _ (az [] hlt);have kw:=hw _ (az 0 (show i<w.length by omega))
   have hgo:=fun h=>hR (i+1) ⟨by omega,h⟩ oO
   have hbad:=fun h: ¬js (vs.getD i []) (w.getD i 0) (fb oq (vs.getD i []))=true=>pd (p:=fun i=>js (vs.getD i []) (w.getD i 0) (fb oq (vs.getD i []))) hlt (eZ.2 h)
   have hnx:js (vs.getD i []) (w.getD i 0) (fb oq (vs.getD i []))=true-> ∀j,j<i+1->js (vs.getD j []) (w.getD j 0) (fb oq (vs.getD j []))=true:=fun h j hj=>by
    by_cases hji:j<i
    ·exact hall j hji
    ·obtain rfl:j=i:=by omega
     exact h
   rw[<-Be]at hbad;clear hR hall;generalize vs.getD i []=b at*;generalize w.getD i 0=x at*;have hz:=(tF kw);simp only[lO,c9,aY]at hz;clear hz;have hk:=nO b;have hlm:fb oq b<dw:=by unfold fb;split;exact Dw hoV.2;exact tQ kb.1
   have hc:=vH b kw hlm;have hbl:(b=[]/\N (fb oq b)= .s oq)\/(b≠[]/\N (fb oq b)= .s b):=by
    by_cases h:b=[]
    ·exact .inl ⟨h,by rw[fb,if_pos h];exact eV hoV.1⟩
    ·exact .inr ⟨h,by rw[fb,if_neg h];exact eV kb.1⟩
   clear kb kw hlm;generalize hp:js b x (fb oq b)=p at*;simp only[dO]at e1 hk hc;simp only[Zp,eC,lO]at e2 hc;rcases hbl with⟨hb,hL⟩|⟨hb,hL⟩
   all_goals
    first|rw[if_pos hb]at hk|rw[if_neg hb]at hk
    rw[hL]at hc;cases p
    ·rw[hbad (by simp)]
     exact RU (aN @l2 (aN @l5 (aN @e1 @e2))) @hk @hc
    ·have hgo:=hgo (hnx rfl);exact yQ (aN @l2 (aN @l5 (aN @e1 @e2))) @hgo @hk @hc
  ·obtain rfl:i=vs.length:=by omega
   have hg:Be oq vs w=true:=oz fun j hj=>hall j hj
   rw[hg];exact z0
end Go.Proofs.YtfdjchnefpefbaaGreatDoor
