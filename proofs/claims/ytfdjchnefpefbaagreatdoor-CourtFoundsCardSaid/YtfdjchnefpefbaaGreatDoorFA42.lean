/-
  Part of the proof, part FA42. Own work.
-/
import Derived.Test.YtfdjchnefpefbaaGreatDoorFA41
set_option linter.all false
namespace Go.Proofs.YtfdjchnefpefbaaGreatDoor
open Go Go.Dom Go.Num
set_option maxRecDepth 100000
set_option maxHeartbeats 16000000
def zd (m o x:Bytes):Bool:=lj m o x&& !(x==[1])
theorem BH {m:Bytes} (lm:m.length<=8) {o:Bytes} (lo:o.length<=8) (x:Bytes):aA Tryz.prog 74 [G m o, .s x] (.b (zd m o x)):=by
 have h:=xr lm lo x;unfold zd;generalize lj m o x=b at*;cases b
 ·refine eW Tryz.call74 Tryz.func74 ?_;exact z1 @h
 ·refine eW Tryz.call74 Tryz.func74 ?_;exact z1 @h
theorem xh {vs:List Bytes} {sd:Bytes} {i:Nat} {n:Bytes} {e:Int} (h:fA vs sd i n= .error e):e=2\/e=14:=mW h
abbrev SK (m o g y:Bytes):PV:= .agg [.s m, .s o, .s g, .s y]
def qf (m o g y:Bytes):Int:=if !([m,o,g,y].all aa)then 3 else if gE m o≠0 then gE m o else if o==[]|| !zd m o g|| !zd m o y then 13 else 0
theorem Jn {m:Bytes} (lm:m.length<=8) {o:Bytes} (lo:o.length<=8) (g y:Bytes):aA Tryz.prog 93 [SK m o g y] (E (qf m o g y)):=by
 have h1:=qH [m,o,g,y] (by simp)
 simp only[aS,bH]at h1;have h2:=jz lm lo;have h3:=BH lm lo g;have h4:=BH lm lo y;unfold qf;generalize [m,o,g,y].all aa=b1 at*;generalize zd m o g=b3 at*;generalize zd m o y=b4 at*;cases b1
 ·refine eW Tryz.call93 Tryz.func93 ?_;exact z1 @h1
 ·by_cases h0:gE m o=0
  ·rw[h0]at h2⊢;obtain⟨b2,hb2⟩: ∃b2,(o==([]:Bytes))=b2:=⟨_,rfl⟩;rw[hb2]
   cases b2<;>cases b3<;>cases b4
   all_goals
    refine eW Tryz.call93 Tryz.func93 ?_;exact UY @hb2 @h1 @h2 @h3 @h4
  ·simp only[bR,aX,if_false,if_pos h0];generalize gE m o=e at*;refine eW Tryz.call93 Tryz.func93 ?_;exact z2 @h1 @h2
def yw (m o base:Bytes) (vs:List Bytes) (sd:Bytes) (a:Int):Except Int (Nat×Nat×Nat):=
 if !([m,o,base].all aa)|| !eD vs a then .error 3 else if gE m o≠0 then .error (gE m o)else if o==[]|| !zd m o base then .error 13
 else match fA vs sd a.toNat (aO (num o-1))with
  | .error e=> .error e
  | .ok c=>if num base^(num c+1)%num m=1 then .error 13 else .ok (num base^(num c+1)%num m,num c+1,a.toNat+1)
def lC (m o base:Bytes) (vs:List Bytes) (sd:Bytes):Except Int (Nat×Nat×Nat)->PV
 | .ok (y,x,j)=> .tup [.agg [.s m, .s o, .s base,N y],N x,T vs sd (j:Nat),E 0]
 | .error e=> .tup [SK [] [] [] [], .s [],T [] [] 0,E e]
theorem No {m:Bytes} (lm:m.length<=8) {o:Bytes} (lo:o.length<=8) (base:Bytes) {vs:List Bytes} {sd:Bytes} {a:Int} (hl:vs.length<1000000) (hsd:sd.length<1000000):aA Tryz.prog 32 [G m o, .s base,T vs sd a] (lC m o base vs sd (yw m o base vs sd a)):=by
 have h1:=qH [m,o,base] (by simp)
 simp only[aS,bH]at h1;have h2:=jz lm lo;have h3:=BH lm lo base;have h4:=Ng vs sd a hl;unfold yw
 cases hb1:[m,o,base].all aa with
 |false=>
  rw[hb1]at h1;simp only[bZ,iu,if_true,lC];refine eW Tryz.call32 Tryz.func32 ?_;exact z1 @h1
 |true=>
 rw[hb1]at h1
 cases hg:eD vs a with
 |false=>
  rw[hg]at h4;simp only[bZ,pE,if_true,lC];refine eW Tryz.call32 Tryz.func32 ?_;exact z2 @h1 @h4
 |true=>
 rw[hg]at h4;simp only[bR,sN,aX,if_false]
 by_cases h0:gE m o=0
 case neg=>
  rw[if_pos h0];simp only[lC];generalize gE m o=e at*;refine eW Tryz.call32 Tryz.func32 ?_;exact z3 @h1 @h4 @h2
 rw[h0]at h2;rw[if_neg (by simpa using h0)]
 cases hb3:zd m o base with
 |false=>
  rw[hb3]at h3;simp only[bZ,pE,if_true,lC]
  by_cases ho:o=[]
  ·subst ho;refine eW Tryz.call32 Tryz.func32 ?_;repeat' first|simp only[go_sem,seval,beq_self_eq_true]|refine cP h1 ?_|refine cP h4 ?_|refine cP h2 ?_|refine cP h3 ?_|refine sB ?_|apply xX<;>intro hc|refine⟨oD,?_⟩|exact oD|fail
   all_goals rfl
  ·have ho':(o==([]:Bytes))=false:=by simpa using ho
   refine eW Tryz.call32 Tryz.func32 ?_;exact UY @ho' @h1 @h4 @h2 @h3
 |true=>
 rw[hb3]at h3
 by_cases ho:o=[]
 ·subst ho;simp only[beq_self_eq_true,iu,if_true,lC];refine eW Tryz.call32 Tryz.func32 ?_;repeat' first|simp only[go_sem,seval,beq_self_eq_true]|refine cP h1 ?_|refine cP h4 ?_|refine cP h2 ?_|refine cP h3 ?_|refine sB ?_|apply xX<;>intro hc|refine⟨oD,?_⟩|exact oD|fail
  all_goals rfl
 have ho':(o==([]:Bytes))=false:=by simpa using ho
 simp only[ho',bR,sN,aX,if_false];obtain⟨vm,vo,m1,-,hoq⟩:=kp h0;obtain⟨q1,-⟩:=hoq ho;have hqW:=dY lo;have hmW:=dY lm;have hW:=jV;unfold zd at hb3;rw[aY]at hb3;have hin:=hb3.1;unfold lj at hin;rw[aY]at hin;obtain⟨vb,gp⟩:=(cL h0).1 hin.2;obtain⟨hv,a0,a1⟩:=rz hg;obtain⟨i,rfl⟩: ∃i:Nat,a=i:=⟨a.toNat,by omega⟩
 rw[Int.toNat_natCast];have s1:=uW (a:=num o) (b:=1) oO oO;rw[eV vo,<-ey]at s1;have hbn:aO (num o-1)≠[]:=fun h=>by have:=fW.1 h;omega
 have dB:=sV (vs:=vs) (sd:=sd) (i:=i) (n:=aO (num o-1)) hv (vN oO) hbn oO hl hsd
 cases hd:fA vs sd i (aO (num o-1))with
 |error e=>
  rw[hd]at dB;have he:=xh hd;simp only[ic,lC]at dB⊢;clear hd;refine eW Tryz.call32 Tryz.func32 ?_;exact Zd @ho' @h1 @h4 @h2 @h3 @s1 @dB
 |ok c=>
  rw[hd]at dB;obtain⟨vc,c2,c3⟩:=fK hv (vN oO) hl oO hd;rw[aG]at c2;simp only[ic]at dB;have s2:=Oq (a:=num c) (b:=1) oO;rw[eV vc,<-ey]at s2;have s3:=jX lm lo (ng:=false) (e:=aO (num c+1)) h0 gp (vN oO) rfl;rw[eV vb,aG]at s3;have hz:cR (num m) (num base) false (num c+1)=num base^(num c+1)%num m:=rfl;rw[hz]at s3;simp only;generalize num base^(num c+1)%num m=y at*;have e1:=Mh y;clear hd hz
  by_cases hy:y=1
  ·rw[if_pos hy];rw[decide_eq_true hy]at e1;simp only[lC];refine eW Tryz.call32 Tryz.func32 ?_;exact ZP (aN @ho' @e1) @h1 @h4 @h2 @h3 @s1 @dB @s2 @s3
  ·rw[if_neg hy];rw[decide_eq_false hy]at e1;simp only[lC];refine eW Tryz.call32 Tryz.func32 ?_;exact ZP (aN @ho' @e1) @h1 @h4 @h2 @h3 @s1 @dB @s2 @s3
noncomputable def y8 (name m o base:Bytes) (need count:Int) (vs:List Bytes) (sd:Bytes) (a:Int):Except Int (Nat×List Nat×Nat):=
 if !([m,o,base].all aa)|| !eD vs a then .error 3 else if !ku name then .error 1
 else match yw m o base vs sd a with
  | .error e=> .error e
  | .ok (y,x,i)=>match uf (num o) x need count vs sd i with
   | .error e=> .error e
   | .ok (ls,j)=> .ok (y,ls,j)
def oP (m base:Nat) (ls:List Nat):List Nat:=ls.map fun s=>base^s%m
def nF (name m o base:Bytes) (need:Int) (vs:List Bytes) (sd:Bytes):Except Int (Nat×List Nat×Nat)->PV
 | .ok (y,ls,j)=> .tup [.agg [.s name, .s m, .s o, .s base,N y,E need, .sl ((oP (num m) (num base) ls).map cY)], .sl (ls.map cY),T vs sd (j:Nat),E 0]
 | .error e=> .tup [Zk, .sl [],T [] [] 0,E e]
theorem yx {m o base:Bytes} {vs:List Bytes} {sd:Bytes} {a e:Int} (h:yw m o base vs sd a= .error e):e≠0:=by
 unfold yw at h
 split at h
 ·injection h with h;omega
 ·split at h
  ·rename_i h1;injection h with h;rw[<-h];exact h1
  ·split at h
   ·injection h with h;omega
   ·split at h
    ·rename_i e' he;injection h with h;have:=xh he;omega
    ·split at h
     ·injection h with h;omega
     ·cases h
structure X5 (m o base:Bytes) (vs:List Bytes) (a:Int) (y x i:Nat):Prop where
 vb:aa base=true
 e:gE m o=0
 o0:o≠[]
 gp:GP m o (num base)
 g1:base≠[1]
 hv:vs.all aa=true
 x0:1<=x
 xq:x<num o
 ye:y=num base^x%num m
 y1:y≠1
 ib:i<=2147483647
theorem HB {m o base:Bytes} {vs:List Bytes} {sd:Bytes} {a:Int} {y x i:Nat} (lo:o.length<=8) (hl:vs.length<1000000) (h:yw m o base vs sd a= .ok (y,x,i)):X5 m o base vs a y x i:=by
 unfold yw at h
 split at h
 ·cases h
 ·rename_i h1
  split at h
  ·cases h
  ·rename_i h2
   split at h
   ·cases h
   ·rename_i h3;have h0:gE m o=0:=by simpa using h2
    simp only[pJ,fE,not_or,Bool.not_eq_false]at h1 h3;have ho:o≠[]:=by simpa using h3.1
    obtain⟨-,-,-,-,hoq⟩:=kp h0;obtain⟨q1,-⟩:=hoq ho;have hqW:=dY lo;have hs:=h3.2;unfold zd lj at hs;simp only[aY,fE,beq_eq_false_iff_ne]at hs;obtain⟨vb,gp⟩:=(cL h0).1 hs.1.2;obtain⟨hv,a0,a1⟩:=rz h1.2
    split at h
    ·cases h
    ·rename_i c hc;obtain⟨-,c2,c3⟩:=fK hv (vN oO) hl oO hc;rw[aG]at c2
     split at h
     ·cases h
     ·rename_i hy;simp only[sA,cO]at h;obtain⟨rfl,rfl,rfl⟩:=h;exact⟨vb,h0,ho,gp,hs.2,hv,by omega,by omega,rfl,hy,c3⟩
theorem yC {q sec:Nat} {need count:Int} {vs:List Bytes} {sd:Bytes} {i:Nat} {e:Int} (h:uf q sec need count vs sd i= .error e):e≠0:=by
 unfold uf at h
 split at h
 ·injection h with h;omega
 ·split at h
  ·injection h with h;omega
  ·split at h
   ·rename_i e' he;injection h with h;have:=tJ he;omega
   ·cases h
theorem yD {q sec:Nat} {need count:Int} {vs:List Bytes} {sd:Bytes} {i:Nat} {ls:List Nat} {j:Nat} (h:uf q sec need count vs sd i= .ok (ls,j)):1<=need/\need<=count/\count<=255/\count<q/\ls.length=count.toNat/\ ∃l,gX vs sd (aO q) (need-1).toNat i []= .ok l/\ls=pW q sec l count.toNat/\du q=true:=by
 unfold uf at h
 split at h
 ·cases h
 ·rename_i h1
  split at h
  ·cases h
  ·rename_i h2
   split at h
   ·cases h
   ·rename_i l hl;simp only[sA,cO]at h;obtain⟨rfl,rfl⟩:=h;exact⟨by omega,by omega,by omega,by omega,yA _ _ _ _,l,hl,rfl,by simpa using h1⟩
theorem HF {q sec:Nat} (h0:0<q) (l:List Bytes) (k:Nat): ∀s∈pW q sec l k,s<q:=fun s hs=>by
 obtain⟨j,-,rfl⟩:=bw.1 hs;have:=tD (q:=(q:Int)) oO ((j+1:Nat):Int) (nI (sec::l.map num));omega
theorem De {name m o:Bytes} (ln:name.length<=60) (lm:m.length<=8) (lo:o.length<=8) (base:Bytes) (need:Int) {count:Int} (hc:count<=8\/count>255) {vs:List Bytes} {sd:Bytes} {a:Int} (hl:vs.length<1000000) (hsd:sd.length<1000000):
  aA Tryz.prog 9 [.s name,G m o, .s base,E need,E count,T vs sd a] (nF name m o base need vs sd (y8 name m o base need count vs sd a)):=by
 have h1:=mV [m,o,base] (by simp)
 simp only[aS,bH]at h1;have h2:=C3 vs sd a hl;have h3:=CT name ln;have h4:=No lm lo base (vs:=vs) (sd:=sd) (a:=a) hl hsd;have f3:=re 3;have f1:=re 1;unfold y8
 cases hb1:[m,o,base].all aa with
 |false=>
  rw[hb1]at h1;simp only[bZ,iu,if_true,nF];refine eW Tryz.call9 Tryz.func9 ?_;exact z2 @h1 @f3
 |true=>
 rw[hb1]at h1
 cases hg:eD vs a with
 |false=>
  rw[hg]at h2;simp only[bZ,pE,if_true,nF];refine eW Tryz.call9 Tryz.func9 ?_;exact z3 @h1 @h2 @f3
 |true=>
 rw[hg]at h2;simp only[bR,sN,aX,if_false]
 cases hn:ku name with
 |false=>
  rw[hn]at h3;simp only[bZ,if_true,nF];refine eW Tryz.call9 Tryz.func9 ?_;exact z4 @h1 @h2 @h3 @f1
 |true=>
 rw[hn]at h3;simp only[bR,aX,if_false]
 cases hs:yw m o base vs sd a with
 |error e=>
  rw[hs]at h4;have he:=yx hs;have fe:=re e;simp only[nF,lC]at h4⊢;clear hs;refine eW Tryz.call9 Tryz.func9 ?_;exact z5 @h1 @h2 @h3 @h4 @fe
 |ok R=>
 obtain⟨y,x,i⟩:=R;rw[hs]at h4;obtain⟨vb,hE,ho,gp,-,hv,x0,xq,hy,-,hi⟩:=HB lo hl hs;obtain⟨vm,vo,m1,-,hoq⟩:=kp hE;have hqW:=dY lo;simp only[lC]at h4⊢
 cases hp:uf (num o) x need count vs sd i with
 |error e=>
  have h5:=FT hqW oO xq hc hv hi hl hsd hp;rw[eV vo]at h5;have he:=yC hp;have fe:=re e;simp only[nF];clear hs hp;refine eW Tryz.call9 Tryz.func9 ?_;exact z6 @h1 @h2 @h3 @h4 @h5 @fe
 |ok R=>
 obtain⟨ls,j⟩:=R;have h5:=Ec hqW oO xq hc hv hi hl hsd hp;rw[eV vo]at h5;obtain⟨n1,n2,n3,n4,n5,l,-,hls,-⟩:=yD hp;have hlq: ∀s∈ls,s<num o:=by rw[hls];exact HF oO l _
 obtain⟨n,hn0⟩: ∃n,n=ls.length:=⟨_,rfl⟩;have lP:ls.length=n:=hn0.symm;have hpos:0<n:=by omega
 simp only[nF];obtain⟨S,hS⟩: ∃S,S=oP (num m) (num base) ls:=⟨_,rfl⟩;have hSl:S.length=n:=by rw[hS,oP,aE,lP]
 have hSg: ∀k,k<n->S.getD k 0=num base^(ls.getD k 0)%num m:=fun k hk=>by
  rw[hS,oP,aR,dt,bJ oO,aR,bJ oO];rfl
 have hEx:=fun s (hsq:s<num o)=>jX lm lo (ng:=false) (e:=aO s) hE gp (vN oO) rfl
 rw[eV vb]at hEx;rw[<-hS];have k1:=cv hSl;have k2:=eR S;have k3:=dy hSl;have k4:(aC S).length=n:=by rw[bE,hSl]
 clear hs hp hls hS;refine eW Tryz.call9 Tryz.func9 ?_;refine Ze @lP @h1 @h2 @h3 @h4 @h5 ?_;refine af (α:=Nat) (fun j=>n-j) (fun k=>match k with|0=>⟨[(2, .v (.s base)),(7, .p 1000 0 0),(11, .p 1001 0 0),(12, .p 1002 0 0),(14, .p 1004 0 0),(20, .v (.sl (ls.map cY))),(21, .p 1059 0 0),(96, .v (.sl (ls.map cY))),(97,E' n),(98, .v (.i .i64 0))],[(1000,⟨0,[.v (.s m), .v (.s o)],false,none⟩),(1001,⟨0,[.v (.sl (vs.map .s)), .v (.s sd), .v (.i .i64 (j:Nat))],false,none⟩),(1002,⟨0,[.v (.s []), .v (.s []), .v (.s []), .v (.s []), .v (.s []), .v (E 0), .sn],false,some 36⟩),(1004,⟨0,[.sn, .v (.s []), .v (.i .i64 0)],false,some 29⟩),(1059,⟨0,[.v (.s name), .v (.s m), .v (.s o), .v (.s base), .v (N y), .v (E need), .sn],false,some 36⟩)],1064⟩|k+1=>⟨[(2, .v (.s base)),(7, .p 1000 0 0),(11, .p 1001 0 0),(12, .p 1002 0 0),(14, .p 1004 0 0),(20, .v (.sl (ls.map cY))),(21, .p 1059 0 0),(96, .v (.sl (ls.map cY))),(97,E' n),(98,E' (k+1))],[(1000,⟨0,[.v (.s m), .v (.s o)],false,none⟩),(1001,⟨0,[.v (.sl (vs.map .s)), .v (.s sd), .v (.i .i64 (j:Nat))],false,none⟩),(1002,⟨0,[.v (.s []), .v (.s []), .v (.s []), .v (.s []), .v (.s []), .v (E 0), .sn],false,some 36⟩),(1004,⟨0,[.sn, .v (.s []), .v (.i .i64 0)],false,some 29⟩),(1059,⟨0,[.v (.s name), .v (.s m), .v (.s o), .v (.s base), .v (N y), .v (E need), .rs 1084 k 0 (k+1) 1],false,some 36⟩),(1084,⟨k,aC (S.take (k+1)),true,some 22⟩)],1089⟩) (fun k=>k<=n) 0 (fun k=>by cases k<;>exact cC rfl) (aH _) ?_ ?_
 ·show AS.Le _ _;exact lE
 ·intro k hk R hR
  cases k with
  |zero=>
   have hgo:=hR 1 oO oO;simp only[fa 0 (show 0<S.length by omega),List.take_zero,List.nil_append,hSg 0 hpos]at hgo
   have e1:=qv ls (i:=0) oO;have hsq:=hlq _ (az 0 (show 0<ls.length by omega))
   generalize ls.getD 0 0=s0 at*;have hf:=pc (a:=aO s0) (vN oO);have hx:aA Tryz.prog 34 [G m o, .s base, .agg [.b false, .s (aO s0)]] (.tup [N (num base^s0%num m),E 0]):=by
    have:=hEx s0 hsq;rw[aG]at this;exact this
   generalize num base^s0%num m=v at*;simp only[show aC [v]=[AV.v (N v)]from rfl]at hgo
   clear hR hEx hSg hlq h1 h2 h3 h4 h5;exact yQ (aN @lP @e1) @hgo @hf @hx
  |succ k=>
   have hlm:(S.take (k+1)).length=k+1:=by rw[bU];omega
   have g1:=cv hlm;have g2:(aC (S.take (k+1))).length=k+1:=by rw[bE,hlm]
   by_cases hlt:k+1<n
   ·have hgo:=hR (k+2) oO oO;simp only[fa 0 (show k+1<S.length by omega),gv,hSg (k+1) hlt]at hgo
    have e1:=qv ls (i:=k+1) oO;have hsq:=hlq _ (az 0 (show k+1<ls.length by omega))
    generalize ls.getD (k+1) 0=s0 at*;have hf:=pc (a:=aO s0) (vN oO);have hx:aA Tryz.prog 34 [G m o, .s base, .agg [.b false, .s (aO s0)]] (.tup [N (num base^s0%num m),E 0]):=by
     have:=hEx s0 hsq;rw[aG]at this;exact this
    generalize num base^s0%num m=v at*;clear hR hEx hSg hlq h1 h2 h3 h4 h5;refine sT (aN @lP (aN @e1 (aN @g1 @g2))) @hf @hx ?_;refine hgo _ ?_;refine lG ?_;all_goals exact fun c hc=>hc.elim (fun h=>eN h) (fun h=>by rw[h];rfl)
   ·obtain rfl:k+1=n:=by omega
    simp only[cd (show S.length<=k+1 by omega)]at g1 g2⊢
    clear hR hEx hSg hlq h1 h2 h3 h4 h5;repeat' first|simp only[go_sem,seval,lP,k1,k2,k3,k4,cQ]|refine sB ?_|apply xX<;>intro hc|refine⟨oD,?_⟩|exact oD|fail
    all_goals rfl
def CK.pS (c:CK) (d:Nat):List Bytes:=c.y::c.sh.take (d-1)
noncomputable def CK.at (c:CK) (i:Nat):Nat:=JN (num c.m) (num c.o) (List.range c.need.toNat) ((c.pS c.need.toNat).map num) i
noncomputable def uL (c:CK):Bool:=(List.range (c.sh.length+1)).all fun i=>decide (i<c.need.toNat)||decide (c.at i=num (c.sh.getD (i-1) []))
noncomputable def k9 (c:CK):Int:=
 if !([c.m,c.o,c.g,c.y].all aa)|| !(c.sh.all aa)then 3 else if !ku c.name then 1
 else if qf c.m c.o c.g c.y≠0 then qf c.m c.o c.g c.y
 else if !du (num c.o)then 12
 else if(num c.o:Int)<=c.sh.length\/c.need<1\/c.need>c.sh.length then 6
 else if !(c.sh.all (lj c.m c.o))then 13 else if uL c then 0 else 22
theorem vG {m o g y:Bytes} (h:qf m o g y=0):gE m o=0/\o≠[]/\aa g=true/\GP m o (num g)/\g≠[1]/\aa y=true/\GP m o (num y)/\y≠[1]:=by
 unfold qf at h
 split at h
 ·cases h
 ·split at h
  ·rename_i h1;exact absurd h h1
  ·rename_i h1
   split at h
   ·cases h
   ·rename_i h2;have h0:gE m o=0:=by simpa using h1
    simp only[pJ,fE,not_or,Bool.not_eq_false,beq_iff_eq,zd,lj,aY,beq_eq_false_iff_ne]at h2;obtain⟨⟨ho,⟨-,hg⟩,hg1⟩,⟨-,hy⟩,hy1⟩:=h2;obtain⟨a1,a2⟩:=(cL h0).1 hg;obtain⟨b1,b2⟩:=(cL h0).1 hy;exact⟨h0,ho,a1,a2,hg1,b1,b2,hy1⟩
theorem HH (hf:Nat->Option au) (f:Nat) (l:List PV):(l.map AV.v).flatMap (aL hf (f+1))=[]:=by
 induction l with
 |nil=>rfl
 |cons x r ih=>simp_all[aL]
theorem VN {x:Bytes} (vx:aa x=true) (v:Nat):(aO v==x)=decide (v=num x):=by
 conv=>lhs;rw[<-fF vx]
 exact wR v (num x)
theorem zG (c:CK) (ln:c.name.length<=60) (lm:c.m.length<=8) (lo:c.o.length<=8) (ls:c.sh.length<=8):aA Tryz.prog 42 [c.pv] (E (k9 c)):=by
 unfold k9;obtain⟨name,m,o,g,y,need,sh⟩:=c;simp only[CK.pv]at*;have l1:(sh.map PV.s).length=sh.length:=aE ..;have h1:=mV [m,o,g,y] (by simp)
 simp only[aS,bH]at h1;have h2:=mV sh oO;have h3:=CT name ln;have h4:=Jn lm lo g y;have h5:=Ac o
 cases hb1:[m,o,g,y].all aa with
 |false=>
  rw[hb1]at h1;simp only[bZ,iu,if_true];refine eW Tryz.call42 Tryz.func42 ?_;exact z1 @h1
 |true=>
 rw[hb1]at h1
 cases hb2:sh.all aa with
 |false=>
  rw[hb2]at h2;simp only[bZ,pE,if_true];refine eW Tryz.call42 Tryz.func42 ?_;exact z2 @h1 @h2
 |true=>
 rw[hb2]at h2;simp only[bR,sN,aX,if_false]
 cases hn:ku name with
 |false=>
  rw[hn]at h3;simp only[bZ,if_true];refine eW Tryz.call42 Tryz.func42 ?_;exact z3 @h1 @h2 @h3
 |true=>
 rw[hn]at h3;simp only[bR,aX,if_false]
 by_cases hk:qf m o g y=0
 case neg=>
  rw[if_pos hk];generalize qf m o g y=e at*;refine eW Tryz.call42 Tryz.func42 ?_;exact z4 @h1 @h2 @h3 @h4
 rw[hk]at h4;rw[if_neg (by simpa using hk)]
 obtain⟨hE,ho,vg,gg,-,vy,gy,-⟩:=vG hk;obtain⟨vm,vo,m1,-,-⟩:=kp hE;have hqW:=dY lo;rw[vo,decide_eq_true lo,show iH o=0 by have:=rP hqW;rwa[fF vo]at this]at h5
 simp only[cf]at h5
 cases hp:du (num o)with
 |false=>
  rw[hp]at h5;simp only[bZ,if_true];refine eW Tryz.call42 Tryz.func42 ?_;exact z5 @h1 @h2 @h3 @h4 @h5
 |true=>
 rw[hp]at h5;simp only[bR,aX,if_false];obtain⟨n,hn0⟩: ∃n,n=sh.length:=⟨_,rfl⟩;have hW:=jV;have lS:sh.length=n:=hn0.symm;rw[lS]at ls⊢;have h6:=kf n oO;have h7:=rh (a:=n) (b:=num o) oO oO;rw[eV vo]at h7;have hw: ∀ _:True,IntKind.u64.wrap (n:Int)=n:=fun _=>IntWalk.u64_in _ oO
 have hcg:=tq n (num o);generalize aU n (num o)=cm at*
 by_cases hb:(num o:Int)<=n\/need<1\/need>n
 ·rw[if_pos hb]
  by_cases b1:num o<=n
  ·rw[decide_eq_true b1]at hcg;refine eW Tryz.call42 Tryz.func42 ?_;exact XE (aN @l1 (aN @lS (aN (hw trivial) @hcg))) @h1 @h2 @h3 @h4 @h5 @h6 @h7
  ·rw[decide_eq_false b1]at hcg
   by_cases b2:need<1
   ·refine eW Tryz.call42 Tryz.func42 ?_;exact XE (aN @l1 (aN @lS (aN (hw trivial) @hcg))) @h1 @h2 @h3 @h4 @h5 @h6 @h7
   ·have b3:need>n:=by omega
    refine eW Tryz.call42 Tryz.func42 ?_;exact XE (aN @l1 (aN @lS (aN (hw trivial) @hcg))) @h1 @h2 @h3 @h4 @h5 @h6 @h7
 rw[if_neg hb];obtain⟨d,rfl⟩: ∃d:Nat,need=d:=⟨need.toNat,by omega⟩
 obtain⟨A,hA⟩: ∃A:Nat->Nat,A=fun i=>JN (num m) (num o) (List.range d) ((y::sh.take (d-1)).map num) i:=⟨_,rfl⟩
 obtain⟨cB,hcB0⟩: ∃cB,cB=uL ⟨name,m,o,g,y,(d:Int),sh⟩:=⟨_,rfl⟩;rw[<-hcB0];have hcB:cB=(List.range (n+1)).all fun i=>decide (i<d)||decide (A i=num (sh.getD (i-1) [])):=by
  rw[hcB0,hA,<-lS];rfl
 clear hcB0;rw[decide_eq_false (show¬(num o<=n) by omega)]at hcg
 have hsv:=bz.1 hb2;refine eW Tryz.call42 Tryz.func42 ?_;refine UZ (aN @l1 (aN @lS (aN (hw trivial) @hcg))) @h1 @h2 @h3 @h4 @h5 @h6 @h7 ?_;refine af (α:=Nat) (fun i=>n-i) (fun i=>⟨[(1, .p 1000 0 0),(7,E' n),(90, .v (.sl (sh.map .s))),(91,E' n),(92,E' i)],[(1000,⟨0,[.v (.s name), .v (.s m), .v (.s o), .v (.s g), .v (.s y), .v (E d), .v (.sl (sh.map .s))],false,none⟩)],_⟩) (fun i=>i<=n/\(sh.drop i).all (lj m o)=sh.all (lj m o)) 0 (fun _=>an _) ⟨aH _,rfl⟩ ?_ ?_
 ·exact lE
 ·rintro i ⟨hi,hf⟩ R hR
  by_cases hlt:i<n
  ·have e1:=eX (l:=sh) (x:=i) oO;have hgo:=fun h=>hR (i+1) ⟨by omega,h⟩ oO
   rw[aT [] (show i<sh.length by omega),List.all_cons]at hf
   generalize sh.getD i []=x at*;have hv:=xr lm lo x;clear hR hcB hA
   cases hbx:lj m o x with
   |true=>
    rw[hbx,cf]at hf;rw[hbx]at hv;refine o8 (aN @l1 @e1) @hv ?_;refine hgo hf _ ?_;exact lE
   |false=>
    rw[hbx,dH]at hf;rw[hbx]at hv;rw[<-hf];clear hgo hf;exact o7 (aN @l1 @e1) @hv
  ·obtain rfl:n=i:=by omega
   rw[<-lS,cX]at hf;have hall:sh.all (lj m o)=true:=hf.symm;rw[hall];simp only[bR,aX,if_false];clear hf hR;have hgp: ∀x∈sh,GP m o (num x):=fun x hx=>by
    have:=bz.1 hall x hx;unfold lj at this;rw[aY]at this;exact((cL hE).1 this.2).2
   have hge: ∀x∈(y::sh.take (d-1)).map num,GP m o x:=fun x hx=>by
    obtain⟨z,hz,rfl⟩:=bw.1 hx;rcases bL.1 hz with rfl|hz
    ·exact gy
    ·exact hgp z (jl hz)
   have hlv: ∀x∈y::sh.take (d-1),aa x=true:=fun x hx=>by
    rcases bL.1 hx with rfl|hx
    ·exact vy
    ·exact hsv x (jl hx)
   have hll:(y::sh.take (d-1)).length=d:=by simp;omega
   have hat:=KB m o g y (pts:=List.range d) (by simp;omega) (by simp;omega) (fun a ha=>by have:=cM.1 ha;omega)
   have hcat:=fun k (hk:k<num o)=>Gp lm lo hE ho hp g y (pts:=List.range d) (pS:=(y::sh.take (d-1)).map num) (by simp;omega) (by rw[aE,hll];simp) B1 (fun a ha=>by have:=cM.1 ha;omega) (by simp;omega) hge (x:=k) hk
   rw[<-E9 hlv]at hcat;have hcat: ∀k,k<=n->aA Tryz.prog 127 (.sl ((y::sh.take (d-1)).map .s)::E k::EP m o g y (List.range d)) (N (A k)):=fun k hk=>by rw[hA];exact hcat k oO
   have hLs: ∀k,k+1<sh.length->sh.take (k+1)=sh.take k++[sh.getD k []]:=fun k hk=>fa [] oO
   have hLr: ∀k,List.range (k+1)=List.range k++[k]:=fun k=>nR
   clear hA hgp hge hlv;refine fx (aN @l1 @lS) ?_
   by_cases hd1:d=1
   ·have hr1:(List.range d).map NS=[E 0]:=by rw[hd1];rfl
    have hr2:(y::sh.take (d-1)).map PV.s=[.s y]:=by rw[hd1];rfl
    rw[hr2]at hcat;rw[hr1]at hat;have hlt1: ∀ _:True,decide ((1:Int)<(d:Int))=false:=fun _=>decide_eq_false oO
    refine ah ?_;refine zr (aN @l1 (aN @lS (hlt1 trivial))) @hat ?_;refine af (α:=Nat) (fun k=>n+1-k) (fun k=>⟨[(1, .p 1000 0 0),(7,E' n),(11, .fs [.s y]),(13, .v (.fc 127 [] (EP m o g y (List.range d)))),(14,E' k)],[(1000,⟨0,[.v (.s name), .v (.s m), .v (.s o), .v (.s g), .v (.s y), .v (E d), .v (.sl (sh.map .s))],false,none⟩)],1102⟩) (fun k=>d<=k/\k<=n+1/\ ∀i,d<=i->i<k->A i=num (sh.getD (i-1) [])) d (fun _=>cC rfl) ⟨an _,by omega,fun i h1 h2=>by omega⟩ ?_ ?_
    ·exact lE
    ·rintro k ⟨hdk,hkn,hall⟩ R hR
     by_cases hlt:k<=n
     ·obtain⟨j,rfl⟩: ∃j,k=j+1:=⟨k-1,by omega⟩
      have hgo:=fun(h:A (j+1)=num (sh.getD j []))=>hR (j+1+1) ⟨by omega,by omega,fun i h1 h2=>by
       by_cases e:i=j+1
       ·subst e;exact h
       ·exact hall i h1 oO⟩ oO
      have e1:=eX (l:=sh) (x:=j) oO;have vx:=hsv _ (az [] (show j<sh.length by omega))
      have hc:=hcat (j+1) oO;have hw: ∀ _:True,IntKind.i64.wrap (((j+1:Nat):Int)-1)=(j:Int):=fun _=>by rw[IntWalk.i64_in _ oO];omega
      have hb:=VN vx (A (j+1));have hle: ∀ _:True,decide (((j+1:Nat):Int)<=(n:Int))=true:=fun _=>decide_eq_true oO
      have hbad:A (j+1)≠num (sh.getD j [])->cB=false:=fun h=>by
       rw[hcB];exact List.all_eq_false.2 ⟨j+1,cM.2 oO,by
        rw[j8,decide_eq_false (show¬(j+1<d) by omega),decide_eq_false h];decide⟩
      generalize A (j+1)=v at*;generalize sh.getD j []=x at*;clear hR hall hcat hsv hcB
      by_cases hv:v=num x
      ·rw[decide_eq_true hv]at hb;have hgo:=hgo hv;clear hbad;exact kR (aN @l1 (aN @e1 (aN (hw trivial) (aN @hb (hle trivial))))) @hgo @hc
      ·rw[decide_eq_false hv]at hb;rw[hbad hv];clear hgo hbad;exact o7 (aN @l1 (aN @e1 (aN (hw trivial) (aN @hb (hle trivial))))) @hc
     ·obtain rfl:k=n+1:=by omega
      have hgood:cB=true:=by
       rw[hcB];refine bz.2 fun i hi=> ?_
       have:=cM.1 hi
       by_cases h:i<d
       ·rw[decide_eq_true h];rfl
       ·rw[decide_eq_true (hall i oO oO)];simp
      rw[hgood];have hle: ∀ _:True,decide (((n+1:Nat):Int)<=(n:Int))=false:=fun _=>decide_eq_false oO
      clear hR hall hcat hsv hcB;exact lQ (hle trivial)
   ·refine ah ?_;have e1:=eX (l:=sh) (x:=0) oO;have t1:sh.take 1=[sh.getD 0 []]:=by rw[fa [] oO];simp
    have hlt1: ∀ _:True,decide ((1:Int)<(d:Int))=true:=fun _=>decide_eq_true oO
    refine fx (aN @l1 (aN @lS (aN @e1 (hlt1 trivial)))) ?_;obtain⟨PX,hPX⟩: ∃PX:Nat->List PV,∀k,PX k=(List.range k).map NS:=⟨_,fun _=>rfl⟩
    obtain⟨PY,hPY⟩: ∃PY:Nat->List PV,∀k,PY k=(y::sh.take k).map PV.s:=⟨_,fun _=>rfl⟩
    rw[<-hPX]at hat;rw[<-hPY]at hcat;have XL: ∀k,(PX k).length=k:=fun k=>by rw[hPX];simp
    have YL: ∀k,k<=n->(PY k).length=k+1:=fun k hk=>by rw[hPY];simp;omega
    have XO: ∀k,((PX k).map AV.v).all AV.one=true:=fun k=>by rw[hPX];simp[NS,AV.one,PV.one]
    have YO: ∀k,((PY k).map AV.v).all AV.one=true:=fun k=>by
     rw[hPY,bz];intro a ha;obtain⟨b,hb,rfl⟩:=bw.1 ha;obtain⟨c,-,rfl⟩:=bw.1 hb;rfl
    have XN: ∀hf f k,((PX k).map AV.v).flatMap (aL hf (f+1))=[]:=fun hf f k=>HH hf f _
    have YN: ∀hf f k,((PY k).map AV.v).flatMap (aL hf (f+1))=[]:=fun hf f k=>HH hf f _
    have XB: ∀k,∀c∈(PX k).map AV.v,c.bd 1112=true:=fun k c hc=>by obtain⟨x,-,rfl⟩:=bw.1 hc;rfl
    have YB: ∀k,∀c∈(PY k).map AV.v,c.bd 1112=true:=fun k c hc=>by obtain⟨x,-,rfl⟩:=bw.1 hc;rfl
    have XS: ∀k,(PX k).map AV.v++[.v (E (k:Nat))]=(PX (k+1)).map AV.v:=fun k=>by rw[hPX,hPX,hLr];simp[NS]
    have YS: ∀k,k+1<n->(PY k).map AV.v++[.v (.s (sh.getD k []))]=(PY (k+1)).map AV.v:=fun k hk=>by rw[hPY,hPY,hLs k oO];simp
    have X2:(PX 2).map AV.v=[.v (E 0), .v (E 1)]:=by rw[hPX];rfl
    have Y1:(PY 1).map AV.v=[.v (.s y), .v (.s (sh.getD 0 []))]:=by rw[hPY,t1];rfl
    have X2':PX 2=[E 0,E 1]:=by rw[hPX];rfl
    have Y1':PY 1=[.s y, .s (sh.getD 0 [])]:=by rw[hPY,t1];rfl
    clear hPX hPY hLr hLs;refine af (α:=Nat⊕Unit) (fun j=>match j with| .inl j=>d-j| .inr _=>0) (fun j=>match j with| .inl j=>⟨[(1, .p 1000 0 0),(7,E' n),(10, .rs 1097 j 0 (j+2) 1),(11, .rs 1106 j 0 (j+2) 1),(12,E' (j+2))],[(1000,⟨0,[.v (.s name), .v (.s m), .v (.s o), .v (.s g), .v (.s y), .v (E d), .v (.sl (sh.map .s))],false,none⟩),(1097,⟨j,(PX (j+2)).map AV.v,true,some 3⟩),(1106,⟨j,(PY (j+1)).map AV.v,true,some 22⟩)],1112⟩| .inr _=>⟨[(10, .v (.sl (PX d))),(11, .v (.sl (PY (d-1)))),(1, .p 1000 0 0),(7,E' n),(12,E' d)],[(1000,⟨0,[.v (.s name), .v (.s m), .v (.s o), .v (.s g), .v (.s y), .v (E d), .v (.sl (sh.map .s))],false,none⟩)],1112⟩) (fun j=>match j with| .inl j=>j+2<d| .inr _=>True) (if 2<d then .inl 0 else .inr ()) (fun j=>by cases j<;>exact cC rfl) ?_ ?_ ?_
    ·by_cases h2:2<d
     ·rw[if_pos h2];show 0+2<d;omega
     ·rw[if_neg h2];trivial
    ·by_cases h2:2<d
     ·rw[if_pos h2];simp only[dI,X2,Y1];exact lE
     ·rw[if_neg h2];have hd2:d=2:=by omega
      have z1:PX d=[E 0,E 1]:=by rw[hd2,X2']
      have z2:PY (d-1)=[.s y, .s (sh.getD 0 [])]:=by rw[hd2,Y1']
      simp only[z1,z2];have z3:((d:Nat):Int)=2:=by omega
      refine AS.Le.TN [(10, .sl [E 0,E 1]),(11, .sl [.s y, .s (sh.getD 0 [])])] [1097,1106] ?_ ?_ (by first|decide|omega) ?_ ?_
      ·intro q hq;simp at hq;rcases hq with rfl|rfl<;>exact⟨by decide,rfl⟩
      ·intro p hp;simp at hp;rcases hp with rfl|rfl<;>simp[aK,aj,view,aL,aQ,chunk,AV.one,PV.one]
      ·simp[dM,dL,aK,aj,AV.bd,AV.bd.bdL,z3]
      ·simp[dM,dL,aK,aj,AV.bd,AV.bd.bdL,z3]
    ·rintro(j| _) hj R hR
     ·have hj:j+2<d:=hj;have q1:=XL (j+2);have q2:List.take (j+2) ((PX (j+2)).map AV.v)=(PX (j+2)).map AV.v:=cd (by rw[aE,q1];omega)
      have q3:=YL (j+1) oO;have q4:List.take (j+2) ((PY (j+1)).map AV.v)=(PY (j+1)).map AV.v:=cd (by rw[aE,q3];omega)
      have p1:=XS (j+2);have p2:=YS (j+1) oO;have e2:=eX (l:=sh) (x:=j+1) oO;have hw: ∀ _:True,IntKind.i64.wrap (((j+2:Nat):Int)-1)=((j+1:Nat):Int):=fun _=>by rw[IntWalk.i64_in _ oO];omega
      have hlt2: ∀ _:True,decide (((j+2:Nat):Int)<(d:Int))=true:=fun _=>decide_eq_true oO
      clear hcat hsv hcB e1 t1
      by_cases h3:j+3<d
      ·have hgo:=hR (.inl (j+1)) h3 (by show d-(j+1)<d-j;omega)
       simp only[show j+1+2=j+2+1 from rfl]at hgo
       clear hR;generalize sh.getD (j+1) []=x at*;refine fx (aN @l1 (aN @lS (aN @e2 (aN (hw trivial) (aN (hlt2 trivial) (aN @q1 (aN @q2 (aN @q3 (aN @q4 (aN @p1 @p2)))))))))) ?_;refine hgo _ ?_
       (refine AS.Le.of (by first|decide|omega) ?_ ?_<;>simp[dM,dL,aK,aj,AV.bd,AV.bd.bdL,u8,ai,ak,ar])
       all_goals exact⟨fun c hc=>XB _ c (by simpa using hc),fun c hc=>YB _ c (by simpa using hc)⟩
      ·have hgo:=hR (.inr ()) trivial (by show 0<d-j;omega)
       clear hR;obtain rfl:d=j+3:=by omega
       generalize sh.getD (j+1) []=x at*;refine fx (aN @l1 (aN @lS (aN @e2 (aN (hw trivial) (aN (hlt2 trivial) (aN @q1 (aN @q2 (aN @q3 (aN @q4 (aN @p1 @p2)))))))))) ?_;refine hgo _ ?_;have q5:=XL (j+3);have q6:List.take (j+3) ((PX (j+3)).map AV.v)=(PX (j+3)).map AV.v:=cd (by rw[aE,q5];omega)
       have q7:=XO (j+3);have q8:chunk 1 (j+3) (PX (j+3))=PX (j+3):=by have:=qo (PX (j+3));rwa[q5]at this
       have p5:=YL (j+2) oO;have p6:List.take (j+3) ((PY (j+2)).map AV.v)=(PY (j+2)).map AV.v:=cd (by rw[aE,p5];omega)
       have p7:=YO (j+2);have p8:chunk 1 (j+3) (PY (j+2))=PY (j+2):=by have:=qo (PY (j+2));rwa[p5]at this
       refine AS.Le.TN [(10, .sl (PX (j+3))),(11, .sl (PY (j+2)))] [1097,1106] ?_ ?_ (by first|decide|omega) ?_ ?_
       ·intro q hq;simp at hq;rcases hq with rfl|rfl<;>exact⟨by decide,rfl⟩
       ·intro p hp;simp only[bL,iy,or_false]at hp;rcases hp with rfl|rfl<;>simp only[aK,aj,view,aL,eJ,dI,sw,dG,aE,Nat.reduceEqDiff,if_true,if_false,q5,q6,q7,q8,p5,p6,p7,p8,XN,YN]<;>simp
        all_goals first|exact q8|exact p8
       ·simp[dM,dL,aK,aj,AV.bd,AV.bd.bdL]<;>omega
       ·simp[dM,dL,aK,aj,AV.bd,AV.bd.bdL]
     ·refine zr (aN @l1 @lS) @hat ?_;refine af (α:=Nat) (fun k=>n+1-k) (fun k=>⟨[(1, .p 1000 0 0),(7,E' n),(11, .v (.sl (PY (d-1)))),(13, .v (.fc 127 [] (EP m o g y (List.range d)))),(14,E' k)],[(1000,⟨0,[.v (.s name), .v (.s m), .v (.s o), .v (.s g), .v (.s y), .v (E d), .v (.sl (sh.map .s))],false,none⟩)],1124⟩) (fun k=>d<=k/\k<=n+1/\ ∀i,d<=i->i<k->A i=num (sh.getD (i-1) [])) d (fun _=>cC rfl) ⟨an _,by omega,fun i h1 h2=>by omega⟩ ?_ ?_
      ·exact lE
      ·rintro k ⟨hdk,hkn,hall⟩ R hR
       by_cases hlt:k<=n
       ·obtain⟨j,rfl⟩: ∃j,k=j+1:=⟨k-1,by omega⟩
        have hgo:=fun(h:A (j+1)=num (sh.getD j []))=>hR (j+1+1) ⟨by omega,by omega,fun i h1 h2=>by
         by_cases e:i=j+1
         ·subst e;exact h
         ·exact hall i h1 oO⟩ oO
        have e1:=eX (l:=sh) (x:=j) oO;have vx:=hsv _ (az [] (show j<sh.length by omega))
        have hc:=hcat (j+1) oO;have hw: ∀ _:True,IntKind.i64.wrap (((j+1:Nat):Int)-1)=(j:Int):=fun _=>by rw[IntWalk.i64_in _ oO];omega
        have hb:=VN vx (A (j+1));have hle: ∀ _:True,decide (((j+1:Nat):Int)<=(n:Int))=true:=fun _=>decide_eq_true oO
        have hbad:A (j+1)≠num (sh.getD j [])->cB=false:=fun h=>by
         rw[hcB];exact List.all_eq_false.2 ⟨j+1,cM.2 oO,by
          rw[j8,decide_eq_false (show¬(j+1<d) by omega),decide_eq_false h];decide⟩
        generalize A (j+1)=v at*;generalize sh.getD j []=x at*;clear hR hall hcat hsv hcB
        by_cases hv:v=num x
        ·rw[decide_eq_true hv]at hb;have hgo:=hgo hv;clear hbad;exact kR (aN @l1 (aN @e1 (aN (hw trivial) (aN @hb (hle trivial))))) @hgo @hc
        ·rw[decide_eq_false hv]at hb;rw[hbad hv];clear hgo hbad;exact o7 (aN @l1 (aN @e1 (aN (hw trivial) (aN @hb (hle trivial))))) @hc
       ·obtain rfl:k=n+1:=by omega
        have hgood:cB=true:=by
         rw[hcB];refine bz.2 fun i hi=> ?_
         have:=cM.1 hi
         by_cases h:i<d
         ·rw[decide_eq_true h];rfl
         ·rw[decide_eq_true (hall i oO oO)];simp
        rw[hgood];have hle: ∀ _:True,decide (((n+1:Nat):Int)<=(n:Int))=false:=fun _=>decide_eq_false oO
        clear hR hall hcat hsv hcB;exact lQ (hle trivial)
theorem Ux {a b m:Nat} (ha:a<18446744073709551616) (hb:b<18446744073709551616) (hm:m<18446744073709551616) (h0:0<m):aA Tryz.prog 261 [N a,N b,N m] (.tup [N ((a+b)%m),E 0]):=by
 have w2:=lF;have hW:=jV;have hc:=ME (aO a) (aO b) (aO m);rw[wX ha (vN hb) hm h0]at hc;have d1:=mn (a:=a) (m:=m) oO oO h0;have d2:=mn (a:=b) (m:=m) oO oO h0;have l1:=aD a h0;have l2:=aD b h0;have hs:=MD (a:=a%m) (b:=b%m) oO;have d3:=mn (a:=a%m+b%m) (m:=m) oO oO h0;rw[<-jN]at d3;refine eW Tryz.call261 Tryz.func261 ?_;exact z5 @hc @d1 @d2 @hs @d3
theorem Uv {a b q:Nat} (ha:a<18446744073709551616) (hb:b<18446744073709551616) (hq:q<18446744073709551616) (h0:0<q):aA Tryz.prog 154 [N q,N a,N b] (N ((a+b)%q)):=by
 have h:=Ux ha hb hq h0;refine eW Tryz.call154 Tryz.func154 ?_;exact z1 @h
theorem Uw {a b q:Nat} (ha:a<18446744073709551616) (hb:b<18446744073709551616) (hq:q<18446744073709551616) (h0:0<q):aA Tryz.prog 155 [N q,N a,N b] (N (a*b%q)):=by
 have h:=Ws ha hb hq h0;refine eW Tryz.call155 Tryz.func155 ?_;exact z1 @h
theorem MA {l:List Bytes} (hv: ∀x∈l,aa x=true) (hl:l.length<1000000):aA Tryz.prog 88 [.sl (l.map .s)] (.b true):=by
 have l5:(l.map PV.s).length=l.length:=aE ..;refine eW Tryz.call88 Tryz.func88 ?_;refine uZ ?_;refine af (α:=Nat) (fun i=>l.length-i) (fun i=>⟨[(0, .v (.sl (l.map .s))),(3,E' i)],[],_⟩) (fun i=>i<=l.length) 0 (fun _=>an _) (aH _) ?_ ?_
 ·exact lE
 ·intro i hi R hR
  by_cases hlt:i<l.length
  ·have e1:=eX hlt;have hgo:=hR (i+1) oO oO;have vx:=aM (l.getD i []);rw[hv _ (az [] hlt)]at vx;generalize l.getD i []=x at*;clear hR;exact kR (aN @l5 @e1) @hgo @vx
  ·obtain rfl:i=l.length:=by omega
   exact lQ @l5
theorem Mz {q:Bytes} (vq:aa q=true) {l:List Bytes} (hv: ∀x∈l,aa x=true/\num x<num q) (hl:l.length<1000000):aA Tryz.prog 90 [.s q, .sl (l.map .s)] (.b true):=by
 have l5:(l.map PV.s).length=l.length:=aE ..;refine eW Tryz.call90 Tryz.func90 ?_;refine uZ ?_;refine af (α:=Nat) (fun i=>l.length-i) (fun i=>⟨[(0, .v (.s q)),(1, .v (.sl (l.map .s))),(5,E' i)],[],_⟩) (fun i=>i<=l.length) 0 (fun _=>an _) (aH _) ?_ ?_
 ·exact lE
 ·intro i hi R hR
  by_cases hlt:i<l.length
  ·have e1:=eX hlt;have hgo:=hR (i+1) oO oO;obtain⟨vx,lx⟩:=hv _ (az [] hlt);have hc:=vE (l.getD i []) q;rw[vx,vq]at hc;simp only[db,if_true]at hc;generalize l.getD i []=x at*;have hg:=Po (num x) (num q);rw[decide_eq_true lx]at hg;generalize aU (num x) (num q)=cm at*;clear hR;exact kR (aN @l5 (aN @e1 @hg)) @hgo @hc
  ·obtain rfl:i=l.length:=by omega
   exact lQ @l5
theorem MB {q:Nat} (hq:q<18446744073709551616) (h0:0<q) {cs:List Nat} (hc: ∀c∈cs,c<18446744073709551616) {x:Nat} (hx:x<18446744073709551616) (hl:cs.length<1000000):aA Tryz.prog 91 [N q, .sl (cs.map cY),N x] (N (pT q (nI cs) x).toNat):=by
 have l5:(cs.map cY).length=cs.length:=aE ..;have hw: ∀ _:True,IntKind.i64.wrap ((cs.length:Int)-1)=(cs.length:Int)-1:=fun _=>IntWalk.i64_in _ oO
 refine eW Tryz.call91 Tryz.func91 ?_;refine eF (aN @l5 (hw trivial)) ?_;refine af (α:=Nat) (fun k=>k) (fun k=>⟨[(0, .v (N q)),(1, .v (.sl (cs.map cY))),(2, .v (N x)),(7, .v (N (pT q ((nI cs).drop k) x).toNat)),(8, .v (.i .i64 ((k:Int)-1)))],[],_⟩) (fun k=>k<=cs.length) cs.length (fun _=>an _) (an _) ?_ ?_
 ·have e:(nI cs).drop cs.length=[]:=iO (by rw[lr];exact an _)
  have e2:N (pT q ((nI cs).drop cs.length) x).toNat= .s []:=by rw[e];exact congrArg PV.s VM
  rw[e2];exact lE
 ·intro k hk R hR
  cases k with
  |zero=>
   rw[sw];exact z0
  |succ k=>
   have hgo:=hR k oO oO;rw[Lu h0 cs x oO]at hgo;have hb:=tD (q:=q) oO x ((nI cs).drop (k+1));have e1: ∀ _:True,((k+1:Nat):Int)-1=(k:Int):=fun _=>by omega
   have hge: ∀ _:True,decide ((k:Int)>=0)=true:=fun _=>by simp
   have hwk: ∀ _:True,IntKind.i64.wrap ((k:Int)-1)=(k:Int)-1:=fun _=>IntWalk.i64_in _ oO
   have e2:=qv cs (i:=k) oO;have hck:=hc _ (az 0 (show k<cs.length by omega))
   obtain⟨y,hy⟩: ∃y,y=(pT q ((nI cs).drop (k+1)) x).toNat:=⟨_,rfl⟩;rw[<-hy]at hgo⊢;have hyq:y<q:=by omega
   generalize cs.getD k 0=c at*;have m1:=Uw (a:=y) (b:=x) (q:=q) oO hx hq h0;have m2:=Uv (a:=y*x%q) (b:=c) (q:=q) (by have:=aD (y*x) h0;omega) hck hq h0
   clear hR hy hb hc;exact yQ (aN (e1 trivial) (aN (hge trivial) (aN (hwk trivial) (aN @l5 @e2)))) @hgo @m1 @m2
theorem Jf {m:Bytes} (lm:m.length<=8) {o:Bytes} (lo:o.length<=8) (x:Bytes):aA Tryz.prog 83 [G m o, .s x] (.b (!(o==[])&&zd m o x)):=by
 have h:=Jc lm lo x;unfold zd;generalize lj m o x=b at*
 by_cases ho:o=[]
 ·subst ho;refine eW Tryz.call83 Tryz.func83 ?_;repeat' first|simp only[go_sem,seval,nn]|refine cP h ?_|refine sB ?_|apply xX<;>intro hc|refine⟨oD,?_⟩|exact oD|fail
  all_goals simp
 ·have ho':(o==([]:Bytes))=false:=by simpa using ho
  cases b
  ·refine eW Tryz.call83 Tryz.func83 ?_;repeat' first|simp only[go_sem,seval,ho']|refine cP h ?_|refine sB ?_|apply xX<;>intro hc|refine⟨oD,?_⟩|exact oD|fail
   all_goals simp
  ·refine eW Tryz.call83 Tryz.func83 ?_;exact Zf @ho' @h
theorem Fv (n:Bytes) (hn:n.length<=60):aA Tryz.prog 38 [.s n] (.b (ku n)):=by
 refine eW Tryz.call38 Tryz.func38 ?_;refine uZ ?_;refine af (α:=Nat) (fun i=>n.length-i) (fun i=>⟨[(0, .v (.s n)),(3, .v (.i .i64 (i:Nat)))],[],_⟩) (fun i=>i<=n.length/\ ∀j,j<i->th j (Ib n j)=false) 0 (fun _=>an _) ⟨aH _,fun j hj=>by omega⟩ ?_ ?_
 ·exact lE
 ·rintro i ⟨hi,ha⟩ R hR
  by_cases hlt:i<n.length
  ·have hlt':(i:Int)<n.length:=by omega
   have hbad:th i (Ib n i)=true->ku n=false:=by
    intro h;unfold ku;have:(List.range n.length).all (fun i=> !th i (Ib n i))=false:=by
     rw[eZ];intro g;have:=bz.1 g i (cM.2 hlt);rw[h]at this;cases this
    rw[this];rfl
   have hgo:th i (Ib n i)=false-> ∀s',(AS.mk [(0, .v (.s n)),(3, .v (.i .i64 ((i+1:Nat):Int)))] [] 1002).Le s'->R s':=by
    intro h s' hs;refine hR (i+1) ⟨by omega,fun j hj=> ?_⟩ oO s' hs
    by_cases e:j=i
    ·subst e;exact h
    ·exact ha j oO
   clear hR ha;obtain⟨c,hcc⟩: ∃c,Ib n i=c:=⟨_,rfl⟩;have hcd:((n.getD i 0).toNat:Int)=c:=hcc;have h0:0<=c/\c<256:=by rw[<-hcd];have:=(n.getD i 0).toNat_lt;omega
   rw[hcc]at hbad hgo;unfold th at hbad hgo;obtain⟨b1,h1⟩: ∃b,decide (c>=97)=b:=⟨_,rfl⟩;obtain⟨b2,h2⟩: ∃b,decide (c<=122)=b:=⟨_,rfl⟩;obtain⟨b3,h3⟩: ∃b,decide (c>=65)=b:=⟨_,rfl⟩;obtain⟨b4,h4⟩: ∃b,decide (c<=90)=b:=⟨_,rfl⟩;obtain⟨b5,h5⟩: ∃b,((i:Int)==0)=b:=⟨_,rfl⟩;obtain⟨b6,h6⟩: ∃b,(c !=95)=b:=⟨_,rfl⟩;obtain⟨b7,h7⟩: ∃b,decide (c<48)=b:=⟨_,rfl⟩;obtain⟨b8,h8⟩: ∃b,decide (c>57)=b:=⟨_,rfl⟩;rw[h1,h2,h3,h4,h5,h6,h7,h8]at hbad hgo;have e1:decide ((i:Int)<(n.length:Int))=true:=decide_eq_true hlt';repeat' first|simp only[go_sem,seval,hcd,h1,h2,h3,h4,h5,h6,h7,h8,e1]|refine sB ?_|apply xX<;>intro hc|refine⟨oD,?_⟩|exact oD|fail
   all_goals clear h1 h2 h3 h4 h5 h6 h7 h8 hcd hcc h0
   all_goals try simp only[fE,Bool.not_eq_false']at*
   all_goals subst_vars
   all_goals first
     |(refine hgo rfl _ ?_;(refine AS.Le.of (by first|decide|omega) ?_ ?_<;>simp[dM,dL,aK,aj,AV.bd,AV.bd.bdL,u8,ai,ak,ar]);done)
     |(rw[hbad rfl];done)
     |(cases b6<;>first|(simp at hc;done)|(refine hgo rfl _ ?_;(refine AS.Le.of (by first|decide|omega) ?_ ?_<;>simp[dM,dL,aK,aj,AV.bd,AV.bd.bdL,u8,ai,ak,ar]);done)|(rw[hbad rfl];done)|fail)
     |fail
  ·obtain rfl:i=n.length:=by omega
   have e:ku n=(!(n==[])&&decide (n.length<=32)):=by
    unfold ku;have:(List.range n.length).all (fun i=> !th i (Ib n i))=true:=by
     rw[bz];intro j hj;rw[ha j (cM.1 hj)];rfl
    rw[this,cf]
   rw[e];have e2:decide ((n.length:Int)<=32)=decide (n.length<=32):=by rw[decide_eq_decide];omega
   clear ha hR e;exact XF
end Go.Proofs.YtfdjchnefpefbaaGreatDoor
