/-
  Part of the proof, part KC39. Own work.
-/
import Derived.Test.YtmobkhegihemeaaGreatDoorKC38
set_option linter.all false
namespace Go.Proofs.YtmobkhegihemeaaGreatDoor
open Go Go.Dom Go.Num
set_option maxRecDepth 100000
set_option maxHeartbeats 16000000
def Ef (m o x:Bytes):Bool:=kG m o x&& !(x==[1])
theorem Ad {m:Bytes} (lm:m.length≤8) {o:Bytes} (lo:o.length≤8) (x:Bytes):aD Tryz.prog 74 [G m o, .s x] (.b (Ef m o x)):=by
 have h:=vL lm lo x;unfold Ef;generalize kG m o x=b at*;cases b
 ·refine eW Tryz.call74 Tryz.func74 ?_;repeat' first|simp only[go_sem,seval]|refine cP h ?_|refine sB ?_|(first|apply pX|apply bX)<;>intro hc|refine⟨oD,?_⟩|exact oD|fail
  all_goals rfl
 ·refine eW Tryz.call74 Tryz.func74 ?_;repeat' first|simp only[go_sem,seval]|refine cP h ?_|refine sB ?_|(first|apply pX|apply bX)<;>intro hc|refine⟨oD,?_⟩|exact oD|fail
  all_goals rfl
theorem Bw {vs:List Bytes} {sd:Bytes} {i:Nat} {n:Bytes} {e:Int} (h:gT vs sd i n= .error e):e=2∨e=14:=mH h
abbrev SK (m o g y:Bytes):PV:= .agg [.s m, .s o, .s g, .s y]
def lV (m o g y:Bytes):Int:=if !([m,o,g,y].all aa)then 3 else if gE m o≠0 then gE m o else if o==[]|| !Ef m o g|| !Ef m o y then 13 else 0
theorem HO {m:Bytes} (lm:m.length≤8) {o:Bytes} (lo:o.length≤8) (g y:Bytes):aD Tryz.prog 28 [SK m o g y] (E (lV m o g y)):=by
 have h1:=pJ [m,o,g,y] (by simp)
 simp only[ba,bG]at h1;have h2:=jn lm lo;have h3:=Ad lm lo g;have h4:=Ad lm lo y;unfold lV;generalize [m,o,g,y].all aa=b1 at*;generalize Ef m o g=b3 at*;generalize Ef m o y=b4 at*;cases b1
 ·refine eW Tryz.call28 Tryz.func28 ?_;repeat' first|simp only[go_sem,seval]|refine cP h1 ?_|refine sB ?_|(first|apply pX|apply bX)<;>intro hc|refine⟨oD,?_⟩|exact oD|fail
  all_goals rfl
 ·by_cases h0:gE m o=0
  ·rw[h0]at h2⊢;obtain⟨b2,hb2⟩: ∃b2,(o==([]:Bytes))=b2:=⟨_,rfl⟩;rw[hb2]
   cases b2<;>cases b3<;>cases b4
   all_goals
    refine eW Tryz.call28 Tryz.func28 ?_;repeat' first|simp only[go_sem,seval,hb2]|refine cP h1 ?_|refine cP h2 ?_|refine cP h3 ?_|refine cP h4 ?_|refine sB ?_|(first|apply pX|apply bX)<;>intro hc|refine⟨oD,?_⟩|exact oD|fail
    all_goals rfl
  ·simp only[bu,aW,if_false,if_pos h0];generalize gE m o=e at*;refine eW Tryz.call28 Tryz.func28 ?_;repeat' first|simp only[go_sem,seval]|refine cP h1 ?_|refine cP h2 ?_|refine sB ?_|(first|apply pX|apply bX)<;>intro hc|refine⟨oD,?_⟩|exact oD|fail
def Cz (m o base:Bytes) (vs:List Bytes) (sd:Bytes) (a:Int):Except Int (Nat×Nat×Nat):=
 if !([m,o,base].all aa)|| !eU vs a then .error 3 else if gE m o≠0 then .error (gE m o)else if o==[]|| !Ef m o base then .error 13
 else match gT vs sd a.toNat (aP (num o-1))with
  | .error e=> .error e
  | .ok c=>if num base^(num c+1)%num m=1 then .error 13 else .ok (num base^(num c+1)%num m,num c+1,a.toNat+1)
def xg (m o base:Bytes) (vs:List Bytes) (sd:Bytes):Except Int (Nat×Nat×Nat)→PV
 | .ok (y,x,j)=> .tup [.agg [.s m, .s o, .s base,N y],N x,T vs sd (j:Nat),E 0]
 | .error e=> .tup [SK [] [] [] [], .s [],T [] [] 0,E e]
theorem Li {m:Bytes} (lm:m.length≤8) {o:Bytes} (lo:o.length≤8) (base:Bytes) {vs:List Bytes} {sd:Bytes} {a:Int} (hl:vs.length<1000000) (hsd:sd.length<1000000):aD Tryz.prog 44 [G m o, .s base,T vs sd a] (xg m o base vs sd (Cz m o base vs sd a)):=by
 have h1:=pJ [m,o,base] (by simp)
 simp only[ba,bG]at h1;have h2:=jn lm lo;have h3:=Ad lm lo base;have h4:=K9 vs sd a hl;unfold Cz
 cases hb1:[m,o,base].all aa with
 |false=>
  rw[hb1]at h1;simp only[bR,oM,if_true,xg];refine eW Tryz.call44 Tryz.func44 ?_;repeat' first|simp only[go_sem,seval]|refine cP h1 ?_|refine sB ?_|(first|apply pX|apply bX)<;>intro hc|refine⟨oD,?_⟩|exact oD|fail
  all_goals rfl
 |true=>
 rw[hb1]at h1
 cases hg:eU vs a with
 |false=>
  rw[hg]at h4;simp only[bR,uq,if_true,xg];refine eW Tryz.call44 Tryz.func44 ?_;repeat' first|simp only[go_sem,seval]|refine cP h1 ?_|refine cP h4 ?_|refine sB ?_|(first|apply pX|apply bX)<;>intro hc|refine⟨oD,?_⟩|exact oD|fail
  all_goals rfl
 |true=>
 rw[hg]at h4;simp only[bu,rz,aW,if_false]
 by_cases h0:gE m o=0
 case neg=>
  rw[if_pos h0];simp only[xg];generalize gE m o=e at*;refine eW Tryz.call44 Tryz.func44 ?_;repeat' first|simp only[go_sem,seval]|refine cP h1 ?_|refine cP h4 ?_|refine cP h2 ?_|refine sB ?_|(first|apply pX|apply bX)<;>intro hc|refine⟨oD,?_⟩|exact oD|fail
  all_goals rfl
 rw[h0]at h2;rw[if_neg (by simpa using h0)]
 cases hb3:Ef m o base with
 |false=>
  rw[hb3]at h3;simp only[bR,uq,if_true,xg]
  by_cases ho:o=[]
  ·subst ho;refine eW Tryz.call44 Tryz.func44 ?_;repeat' first|simp only[go_sem,seval,beq_self_eq_true]|refine cP h1 ?_|refine cP h4 ?_|refine cP h2 ?_|refine cP h3 ?_|refine sB ?_|(first|apply pX|apply bX)<;>intro hc|refine⟨oD,?_⟩|exact oD|fail
   all_goals rfl
  ·have ho':(o==([]:Bytes))=false:=by simpa using ho
   refine eW Tryz.call44 Tryz.func44 ?_;repeat' first|simp only[go_sem,seval,ho']|refine cP h1 ?_|refine cP h4 ?_|refine cP h2 ?_|refine cP h3 ?_|refine sB ?_|(first|apply pX|apply bX)<;>intro hc|refine⟨oD,?_⟩|exact oD|fail
   all_goals rfl
 |true=>
 rw[hb3]at h3
 by_cases ho:o=[]
 ·subst ho;simp only[beq_self_eq_true,oM,if_true,xg];refine eW Tryz.call44 Tryz.func44 ?_;repeat' first|simp only[go_sem,seval,beq_self_eq_true]|refine cP h1 ?_|refine cP h4 ?_|refine cP h2 ?_|refine cP h3 ?_|refine sB ?_|(first|apply pX|apply bX)<;>intro hc|refine⟨oD,?_⟩|exact oD|fail
  all_goals rfl
 have ho':(o==([]:Bytes))=false:=by simpa using ho
 simp only[ho',bu,rz,aW,if_false];obtain⟨vm,vo,m1,-,hoq⟩:=jY h0;obtain⟨q1,-⟩:=hoq ho;have hqW:=ep lo;have hmW:=ep lm;have hW:=jI;unfold Ef at hb3;rw[aZ]at hb3;have hin:=hb3.1;unfold kG at hin;rw[aZ]at hin;obtain⟨vb,gp⟩:=(dp h0).1 hin.2;obtain⟨hv,a0,a1⟩:=vP hg;obtain⟨i,rfl⟩: ∃i:Nat,a=i:=⟨a.toNat,by omega⟩
 rw[Int.toNat_natCast];have s1:=tF (a:=num o) (b:=1) (by omega) (by omega)
 rw[fq vo,←dY]at s1;have hbn:aP (num o-1)≠[]:=fun h=>by have:=gI.1 h;omega
 have dB:=rD (vs:=vs) (sd:=sd) (i:=i) (n:=aP (num o-1)) hv (vN (by omega)) hbn (by omega) hl hsd
 cases hd:gT vs sd i (aP (num o-1))with
 |error e=>
  rw[hd]at dB;have he:=Bw hd;simp only[nK,xg]at dB⊢;clear hd;refine eW Tryz.call44 Tryz.func44 ?_;repeat' first|simp only[go_sem,seval,ho']|refine cP h1 ?_|refine cP h4 ?_|refine cP h2 ?_|refine cP h3 ?_|refine cP s1 ?_|refine cP dB ?_|refine sB ?_|(first|apply pX|apply bX)<;>intro hc|refine⟨oD,?_⟩|exact oD|fail
  all_goals rfl
 |ok c=>
  rw[hd]at dB;obtain⟨vc,c2,c3⟩:=gU hv (vN (by omega)) hl (by omega) hd
  rw[aK]at c2;simp only[nK]at dB;have s2:=Mg (a:=num c) (b:=1) (by omega)
  rw[fq vc,←dY]at s2;have s3:=jK lm lo (ng:=false) (e:=aP (num c+1)) h0 gp (vN (by omega)) rfl
  rw[fq vb,aK]at s3;have hz:cL (num m) (num base) false (num c+1)=num base^(num c+1)%num m:=rfl;rw[hz]at s3;simp only;generalize num base^(num c+1)%num m=y at*;have e1:=NS y;clear hd hz
  by_cases hy:y=1
  ·rw[if_pos hy];rw[decide_eq_true hy]at e1;simp only[xg];refine eW Tryz.call44 Tryz.func44 ?_;repeat' first|simp only[go_sem,seval,ho',e1]|refine cP h1 ?_|refine cP h4 ?_|refine cP h2 ?_|refine cP h3 ?_|refine cP s1 ?_|refine cP dB ?_|refine cP s2 ?_|refine cP s3 ?_|refine sB ?_|(first|apply pX|apply bX)<;>intro hc|refine⟨oD,?_⟩|exact oD|fail
   all_goals rfl
  ·rw[if_neg hy];rw[decide_eq_false hy]at e1;simp only[xg];refine eW Tryz.call44 Tryz.func44 ?_;repeat' first|simp only[go_sem,seval,ho',e1]|refine cP h1 ?_|refine cP h4 ?_|refine cP h2 ?_|refine cP h3 ?_|refine cP s1 ?_|refine cP dB ?_|refine cP s2 ?_|refine cP s3 ?_|refine sB ?_|(first|apply pX|apply bX)<;>intro hc|refine⟨oD,?_⟩|exact oD|fail
   all_goals rfl
theorem Bn (n:Bytes) (hn:n.length≤60):aD Tryz.prog 27 [.s n] (.b (kq n)):=by
 refine eW Tryz.call27 Tryz.func27 ?_;repeat' first|simp only[go_sem,seval]|refine sB ?_|(first|apply pX|apply bX)<;>intro hc|refine⟨oD,?_⟩|exact oD|fail
 refine aj (α:=Nat) (fun i=>n.length-i) (fun i=>⟨[(0, .v (.s n)),(7, .v (.i .i64 n.length)),(8, .v (.i .i64 (i:Nat)))],[],_⟩) (fun i=>i≤n.length∧ ∀j,j<i→rQ j (GG n j)=false) 0 (fun _=>au _) ⟨aL _,fun j hj=>by omega⟩ ?_ ?_
 ·exact lE
 ·rintro i ⟨hi,ha⟩ R hR
  by_cases hlt:i<n.length
  ·have hlt':(i:Int)<n.length:=by omega
   have hbad:rQ i (GG n i)=true→kq n=false:=by
    intro h;unfold kq;have:(List.range n.length).all (fun i=> !rQ i (GG n i))=false:=by
     rw[fj];intro g;have:=bc.1 g i (dk.2 hlt);rw[h]at this;cases this
    rw[this];rfl
   have hgo:rQ i (GG n i)=false→ ∀s',(AS.mk [(0, .v (.s n)),(7, .v (.i .i64 n.length)),(8, .v (.i .i64 ((i+1:Nat):Int)))] [] 1004).Le s'→R s':=by
    intro h s' hs;refine hR (i+1) ⟨by omega,fun j hj=> ?_⟩ (by omega) s' hs
    by_cases e:j=i
    ·subst e;exact h
    ·exact ha j (by omega)
   clear hR ha;obtain⟨c,hcc⟩: ∃c,GG n i=c:=⟨_,rfl⟩;have hcd:((n.getD i 0).toNat:Int)=c:=hcc;have h0:0≤c∧c<256:=by rw[←hcd];have:=(n.getD i 0).toNat_lt;omega
   rw[hcc]at hbad hgo;unfold rQ at hbad hgo;obtain⟨b1,h1⟩: ∃b,decide (c≥97)=b:=⟨_,rfl⟩;obtain⟨b2,h2⟩: ∃b,decide (c≤122)=b:=⟨_,rfl⟩;obtain⟨b3,h3⟩: ∃b,decide (c≥65)=b:=⟨_,rfl⟩;obtain⟨b4,h4⟩: ∃b,decide (c≤90)=b:=⟨_,rfl⟩;obtain⟨b5,h5⟩: ∃b,((i:Int)==0)=b:=⟨_,rfl⟩;obtain⟨b6,h6⟩: ∃b,(c !=95)=b:=⟨_,rfl⟩;obtain⟨b7,h7⟩: ∃b,decide (c<48)=b:=⟨_,rfl⟩;obtain⟨b8,h8⟩: ∃b,decide (c>57)=b:=⟨_,rfl⟩;rw[h1,h2,h3,h4,h5,h6,h7,h8]at hbad hgo;have e1:decide ((i:Int)<(n.length:Int))=true:=decide_eq_true hlt';repeat' first|simp only[go_sem,seval,hcd,h1,h2,h3,h4,h5,h6,h7,h8,e1]|refine sB ?_|(first|apply pX|apply bX)<;>intro hc|refine⟨oD,?_⟩|exact oD|fail
   all_goals clear h1 h2 h3 h4 h5 h6 h7 h8 hcd hcc h0
   all_goals try simp only[fF,Bool.not_eq_false']at*
   all_goals subst_vars
   all_goals first
     |(refine hgo rfl _ ?_;(refine AS.Le.of (by first|decide|omega) ?_ ?_<;>simp[cl,cj,aF,ar,AV.bd,AV.bd.bdL,u8,ah,ai,aq]);done)
     |(rw[hbad rfl];done)
     |(cases b6<;>first|(simp at hc;done)|(refine hgo rfl _ ?_;(refine AS.Le.of (by first|decide|omega) ?_ ?_<;>simp[cl,cj,aF,ar,AV.bd,AV.bd.bdL,u8,ah,ai,aq]);done)|(rw[hbad rfl];done)|fail)
     |fail
  ·obtain rfl:i=n.length:=by omega
   have e:kq n=(!(n==[])&&decide (n.length≤32)):=by
    unfold kq;have:(List.range n.length).all (fun i=> !rQ i (GG n i))=true:=by
     rw[bc];intro j hj;rw[ha j (dk.1 hj)];rfl
    rw[this,bZ]
   rw[e];have e2:decide ((n.length:Int)≤32)=decide (n.length≤32):=by rw[decide_eq_decide];omega
   clear ha hR e;repeat' first|simp only[go_sem,seval]|refine sB ?_|(first|apply pX|apply bX)<;>intro hc|refine⟨oD,?_⟩|exact oD|fail
   all_goals simp_all
structure CK where
 name:Bytes
 m:Bytes
 o:Bytes
 g:Bytes
 y:Bytes
 need:Int
 sh:List Bytes
def CK.pv (c:CK):PV:= .agg [.s c.name, .s c.m, .s c.o, .s c.g, .s c.y,E c.need, .sl (c.sh.map .s)]
abbrev Wd:PV:= .agg [.s [], .s [], .s [], .s [], .s [],E 0, .sl []]
theorem qg (e:Int):aD Tryz.prog 42 [E e] (.tup [Wd, .sl [],T [] [] 0,E e]):=by
 refine eW Tryz.call42 Tryz.func42 ?_;repeat' first|simp only[go_sem,seval]|refine sB ?_|(first|apply pX|apply bX)<;>intro hc|refine⟨oD,?_⟩|exact oD|fail
 all_goals rfl
theorem Bq (c:CK):aD Tryz.prog 65 [c.pv] (.agg [.s c.o, .s [2]]):=by
 unfold CK.pv;refine eW Tryz.call65 Tryz.func65 ?_;repeat' first|simp only[go_sem,seval]|refine cP Ta ?_|refine sB ?_|(first|apply pX|apply bX)<;>intro hc|refine⟨oD,?_⟩|exact oD|fail
 all_goals rfl
def po (c:CK) (i:Nat):Bytes:=[99,111,117,114,116,32]++c.name++[46]++Lib.decDigits i
theorem EU (c:CK) (hn:c.name.length≤1000) {i:Nat} (hi:i<100):aD Tryz.prog 66 [c.pv,E i] (.s (po c i)):=by
 have h:=EG i (by omega)
 have hl:(Lib.decDigits i).length≤2:=by
  have: ∀i,i<100→(Lib.decDigits i).length≤2:=by decide+kernel
  exact this i hi
 unfold CK.pv po;generalize Lib.decDigits i=d at*;refine eW Tryz.call66 Tryz.func66 ?_;repeat' first|simp only[go_sem,seval,bC]|refine cP h ?_|refine sB ?_|(first|apply pX|apply bX)<;>intro hc|refine⟨oD,?_⟩|exact oD|fail
 all_goals rfl
theorem EV (t b:Bytes):aD Tryz.prog 122 [.s t, .s b] (eE.pv ⟨0,t,[xY b 0]⟩):=by
 unfold eE.pv;refine eW Tryz.call122 Tryz.func122 ?_;repeat' first|simp only[go_sem,seval]|refine cP Qc ?_|refine sB ?_|(first|apply pX|apply bX)<;>intro hc|refine⟨oD,?_⟩|exact oD|fail
 all_goals rfl
def dV (c:CK) (i:Nat) (a d:Bytes):dy:=⟨[(c.m,c.o)],[[]],[⟨0,c.sh.getD (i-1) [],[xY c.g 0]⟩,⟨0,d,[xY a 0]⟩]⟩
theorem E5 (c:CK) {i:Nat} (h1:1≤i) (hi:i≤c.sh.length) (hl:c.sh.length<1000000) (a d:Bytes):aD Tryz.prog 67 [c.pv,E i, .s a, .s d] (dV c i a d).pv:=by
 obtain⟨j,rfl⟩: ∃j,i=j+1:=⟨i-1,by omega⟩
 have e1:=eA (l:=c.sh) (x:=j) (by omega)
 have hw: ∀ _:True,IntKind.i64.wrap (((j+1:Nat):Int)-1)=(j:Int):=fun _=>by rw[IntWalk.i64_in _ (by omega)];omega
 have l1:(c.sh.map PV.s).length=c.sh.length:=aH ..;unfold dV CK.pv dy.pv;rw[kn];have c1:=EV (c.sh.getD j []) c.g;have c2:=EV d a;generalize c.sh.getD j []=t at*;simp only[eE.pv,ba,bG,fR.pv,xY]at c1 c2⊢;refine eW Tryz.call67 Tryz.func67 ?_;repeat' first|simp only[go_sem,seval,hw trivial,l1,e1]|refine cP c1 ?_|refine cP c2 ?_|refine sB ?_|(first|apply pX|apply bX)<;>intro hc|refine⟨oD,?_⟩|exact oD|fail
 all_goals rfl
def G8 (c:CK) (i:Int) (xs:List Bytes):Int:=if i<1∨i>c.sh.length then 2 else if !(xs.all (kG c.m c.o))then 13 else 0
theorem EW (c:CK) (lm:c.m.length≤8) (lo:c.o.length≤8) (hl:c.sh.length<1000000) (i:Int) {xs:List Bytes} (hx:xs.length<1000000):aD Tryz.prog 63 [c.pv,E i, .sl (xs.map .s)] (E (G8 c i xs)):=by
 have l1:(c.sh.map PV.s).length=c.sh.length:=aH ..;have l2:(xs.map PV.s).length=xs.length:=aH ..;obtain⟨name,m,o,g,y,need,sh⟩:=c;unfold G8 CK.pv;simp only at*
 by_cases h:i<1∨i>(sh.length:Int)
 ·rw[if_pos h]
  by_cases h1:i<1
  ·refine eW Tryz.call63 Tryz.func63 ?_;repeat' first|simp only[go_sem,seval,l1]|refine sB ?_|(first|apply pX|apply bX)<;>intro hc|refine⟨oD,?_⟩|exact oD|fail
   all_goals rfl
  ·have h2:i>(sh.length:Int):=by omega
   refine eW Tryz.call63 Tryz.func63 ?_;repeat' first|simp only[go_sem,seval,l1]|refine sB ?_|(first|apply pX|apply bX)<;>intro hc|refine⟨oD,?_⟩|exact oD|fail
   all_goals rfl
 rw[if_neg h];have h1: ¬i<1:=fun g=>h (.inl g)
 have h2: ¬i>(sh.length:Int):=fun g=>h (.inr g)
 refine eW Tryz.call63 Tryz.func63 ?_;repeat' first|simp only[go_sem,seval,l1]|refine sB ?_|(first|apply pX|apply bX)<;>intro hc|refine⟨oD,?_⟩|exact oD|fail
 refine aj (α:=Nat) (fun i=>xs.length-i) (fun i=>⟨[(3, .p 1000 0 0),(18, .v (.sl (xs.map .s))),(19,E' xs.length),(20,E' i)],[(1000,⟨0,[.v (.s name), .v (.s m), .v (.s o), .v (.s g), .v (.s y), .v (E need), .v (.sl (sh.map .s))],false,none⟩)],_⟩) (fun i=>i≤xs.length∧(xs.drop i).all (kG m o)=xs.all (kG m o)) 0 (fun _=>au _) ⟨aL _,rfl⟩ ?_ ?_
 ·exact lE
 ·rintro k ⟨hi,hf⟩ R hR;rw[←hf]
  by_cases hlt:k<xs.length
  ·have e1:=eA hlt;have hgo:=hR (k+1);rw[←hf]at hgo;rw[aR [] hlt,List.all_cons]at hgo⊢;generalize xs.getD k []=x at*;have hv:=vL lm lo x;clear hR hf;generalize kG m o x=b at*;cases b
   ·repeat' first|simp only[go_sem,seval,l2,e1]|refine cP hv ?_|refine sB ?_|(first|apply pX|apply bX)<;>intro hc|refine⟨oD,?_⟩|exact oD|fail
    all_goals simp
   ·have hgo:=hgo ⟨by omega,by simp⟩ (by omega)
    repeat' first|simp only[go_sem,seval,l2,e1]|refine cP hv ?_|refine sB ?_|(first|apply pX|apply bX)<;>intro hc|refine⟨oD,?_⟩|exact oD|fail
    refine hgo _ ?_;exact lE
  ·obtain rfl:k=xs.length:=by omega
   rw[cY];repeat' first|simp only[go_sem,seval,l2]|refine sB ?_|(first|apply pX|apply bX)<;>intro hc|refine⟨oD,?_⟩|exact oD|fail
   all_goals rfl
theorem zd {n:Nat} (h:n<18446744073709551616):aD Tryz.prog 80 [E n] (N n):=by
 have h1:=jT n h;have hw: ∀ _:True,IntKind.u64.wrap (n:Int)=n:=fun _=>IntWalk.u64_in _ (by omega)
 refine eW Tryz.call80 Tryz.func80 ?_;repeat' first|simp only[go_sem,seval,hw trivial]|refine cP h1 ?_|refine sB ?_|(first|apply pX|apply bX)<;>intro hc|refine⟨oD,?_⟩|exact oD|fail
def uP (n:Nat):PV:=E n
abbrev Du (m o g y:Bytes) (pts:List Nat):List PV:=[.pt (.agg [.sl (pts.map cA)]) 0, .pt (.agg [.fn (.func 80)]) 0, .pt (.agg [.s m, .s o, .s g, .s y]) 0]
theorem I6 (m o g y:Bytes) {pts:List Nat} (h0:pts≠[]) (hl:pts.length<1000000) (hb: ∀a∈pts,a<18446744073709551616):aD Tryz.prog 33 [.agg [.s m, .s o, .s g, .s y], .sl (pts.map uP)] (.fc 81 [] (Du m o g y pts)):=by
 have hpos:0<pts.length:=ky.2 h0;have hc:=fun i (hi:i<pts.length)=>zd (hb _ (ay 0 hi))
 have hE:=fun i (hi:i<pts.length)=>getD_map uP pts 0 hi
 obtain⟨n,hn⟩: ∃n,n=pts.length:=⟨_,rfl⟩;have lP:pts.length=n:=hn.symm;refine eW Tryz.call33 Tryz.func33 ?_;repeat' first|simp only[go_sem,seval,lP]|refine sB ?_|(first|apply pX|apply bX)<;>intro hc|refine⟨oD,?_⟩|exact oD|fail
 refine ae ?_;have e1:=hE 0 hpos;have c1:=hc 0 hpos;have t1:pts.take 1=[pts.getD 0 0]:=by rw[dN 0 hpos];simp
 simp only[uP]at e1;generalize pts.getD 0 0=x at*;repeat' first|simp only[go_sem,seval,lP,e1]|refine cP c1 ?_|refine sB ?_|(first|apply pX|apply bX)<;>intro hc|refine⟨oD,?_⟩|exact oD|fail
 refine aj (α:=Nat) (fun j=>n-(j+1)) (fun j=>⟨[(2, .p 1000 0 0),(5, .p 1002 0 0),(6, .p 1004 0 0),(9, .v (.sl (pts.map uP))),(10,E' n),(11,E' (j+1))],[(1000,⟨0,[.v (.s m), .v (.s o), .v (.s g), .v (.s y)],false,none⟩),(1002,⟨0,[.v (.fn (.func 80))],false,some 141⟩),(1004,⟨0,[.rs 1017 j 0 (j+1) 1],false,some 27⟩),(1017,⟨j,az (pts.take (j+1)),true,some 22⟩)],1021⟩) (fun j=>j+1≤n) 0 (fun _=>bQ rfl) (by omega) ?_ ?_
 ·simp only[cW,t1,show az [x]=[AV.v (N x)]from rfl]
  exact lE
 ·intro j hj R hR;have hlm:(pts.take (j+1)).length=j+1:=by rw[cG];omega
  have g1:=cu hlm;have g2:(az (pts.take (j+1))).length=j+1:=by rw[aS,hlm]
  by_cases hlt:j+1<n
  ·have hgo:=hR (j+1) (by omega) (by omega)
   have e2:=hE (j+1) (by omega)
   have c2:=hc (j+1) (by omega)
   rw[dN 0 (show j+1<pts.length by omega),j4]at hgo
   simp only[uP]at e2;generalize pts.getD (j+1) 0=z at*;clear hR hE hc e1 c1;repeat' first|simp only[go_sem,seval,lP,e2,g1,g2]|refine cP c2 ?_|refine sB ?_|(first|apply pX|apply bX)<;>intro hc|refine⟨oD,?_⟩|exact oD|fail
   refine hgo _ ?_
   (refine AS.Le.of (by first|decide|omega) ?_ ?_<;>simp[cl,cj,aF,ar,AV.bd,AV.bd.bdL,u8,ah,ai,aq])
   all_goals exact fun c hc=>hc.elim (fun h=>cZ h) (fun h=>by rw[h];rfl)
  ·obtain rfl:j+1=n:=by omega
   have hT:pts.take (j+1)=pts:=bM (by omega)
   rw[hT]at g1 g2⊢;have g3:=dK pts;have g4:=cK (l:=pts) lP;clear hR hE hc e1 c1;repeat' first|simp only[go_sem,seval,lP,g1,g2,g3,g4,cF]|refine sB ?_|(first|apply pX|apply bX)<;>intro hc|refine⟨oD,?_⟩|exact oD|fail
   all_goals rfl
def uv (n i:Nat):List Nat:=(List.replicate n 0).set i 1
noncomputable def mK (q:Nat) (pts:List Nat) (x i:Nat):Nat:=DF q pts (uv pts.length i) x
noncomputable def qu (q:Nat) (pts:List Nat) (x k:Nat):List (Bool×Bytes):=(List.range k).map fun i=>(false,aP (mK q pts x i))
noncomputable def Ia (m q:Nat) (pts k9:List Nat) (x:Nat):Nat:=C9 m (k9.zip (qu q pts x pts.length))
theorem Fs {q:Nat} (h0:0<q) (pts:List Nat) (x i:Nat):mK q pts x i<q:=by
 unfold mK DF;have:=vR (q:=(q:Int)) (by omega) x (nI (pL q pts (uv pts.length i)))
 omega
theorem ES {m o:Bytes} (lm:m.length≤8) (lo:o.length≤8) (hE:gE m o=0) (ho:o≠[]) (hp:dS (num o)=true) (g y:Bytes) {pts k9:List Nat} (h0:pts≠[]) (hl:k9.length=pts.length) (hd:pts.Nodup) (hb: ∀a∈pts,a≤8∧a<num o) (h256:pts.length≤256) (he: ∀x∈k9,GP m o x) {x:Nat} (hx:x<num o):
  aD Tryz.prog 81 (.sl (k9.map cA)::E x::Du m o g y pts) (N (Ia (num m) (num o) pts k9 x)):=by
 obtain⟨vm,vo,m1,-,hoq⟩:=jY hE;have hq:=ep lo;have h2:=vY hp;have hg:=fun i (hi:i<pts.length)=>F7 hp hd hb hi
 obtain⟨q,hqq⟩: ∃q,q=num o:=⟨_,rfl⟩;have eo:(PV.s o)=N q:=by rw[hqq,fq vo]
 rw[←hqq]at hp hb hx hq h2 hg⊢;have hpos:0<pts.length:=ky.2 h0;have huv: ∀i,∀a∈uv pts.length i,a<q:=fun i a ha=>by
  unfold uv at ha;rcases List.mem_or_eq_of_mem_set ha with h|h
  ·have:=(AD.1 h).2;omega
  ·omega
 have hI:=fun i=>Ej hq hp (xs:=pts) (ys:=uv pts.length i) (x:=x) (by simp[uv]) h256 (fun a h=>(hb a h).2) (huv i) hx hd hg
 have hlt:=fun i=>Fs (q:=q) (by omega) pts x i
 have hF:=fun i=>oo (a:=aP (mK q pts x i)) (vN (by have:=hlt i;omega))
 have hP:=zx lm lo hE (xs:=k9) (es:=qu q pts x pts.length) he (fun e h=>by
  obtain⟨i,-,rfl⟩:=a5.1 h;unfold db;simp[vN (show mK q pts x i<18446744073709551616 by have:=hlt i;omega)]) (by simp[qu,hl]) (by omega)
 have hc1:=zd (n:=1) (by decide)
 have hcx:=zd (n:=x) (by omega)
 have hsn: ∀k,qu q pts x (k+1)=qu q pts x k++[(false,aP (mK q pts x k))]:=fun k=>by
  unfold qu;rw[rk,eB];rfl
 have hel: ∀k,(qu q pts x k).length=k:=fun k=>by simp[qu]
 have he0:qu q pts x 0=[]:=rfl;unfold Ia;obtain⟨n,hn⟩: ∃n,n=pts.length:=⟨_,rfl⟩;have lP:pts.length=n:=hn.symm;simp only[lP]at hI hP⊢;have hI: ∀i,aD Tryz.prog 82 [N q, .sl (pts.map cA), .sl ((uv n i).map cA),N x] (.tup [N (mK q pts x i),E 0]):=fun i=>by unfold mK;rw[lP];exact hI i
 simp only[G,Du]at hP⊢;rw[eo]at hP⊢;generalize qu q pts x=L at*;generalize mK q pts x=la at*;clear hg hlt huv he hd hb hE;have u0:(az (List.replicate n 0)).length=n:=by rw[aS];simp
 have u1: ∀i,i<n→List.take i (az (List.replicate n 0))++[AV.v (N 1)]++List.drop (i+1) (az (List.replicate n 0))=az (uv n i):=fun i hi=>dc (x:=1) (by simpa using hi)
 have u2:AV.v (N 1)::List.drop 1 (az (List.replicate n 0))=az (uv n 0):=u1 0 (by omega)
 have ul: ∀i,(uv n i).length=n:=fun i=>by simp[uv]
 have x1:=fun i=>cu (ul i)
 have x2:=fun i=>dK (uv n i)
 have x3:=fun i=>cK (ul i)
 have x4: ∀i,(az (uv n i)).length=n:=fun i=>by rw[aS,ul]
 have r1: ∀k,bJ eg (L (k+1))=bJ eg (L k)++[.v (.b false), .v (N (la k))]:=fun k=>by rw[hsn,dM];rfl
 refine eW Tryz.call81 Tryz.func81 ?_;repeat' first|simp only[go_sem,seval,lP]|refine sB ?_|(first|apply pX|apply bX)<;>intro hc|refine⟨oD,?_⟩|exact oD|fail
 refine aj (α:=Nat) (fun j=>n-j) (fun j=>match j with|0=>⟨[(0, .v (.sl (k9.map cA))),(1, .v (E x)),(2, .v (.pt (.agg [.sl (pts.map cA)]) 0)),(3, .v (.pt (.agg [.fn (.func 80)]) 0)),(4, .v (.pt (.agg [.s m,N q, .s g, .s y]) 0)),(15, .v (.sl (pts.map cA))),(16,E' n),(8, .sn),(17, .v (.i .i64 0))],[],1005⟩|j+1=>⟨[(0, .v (.sl (k9.map cA))),(1, .v (E x)),(2, .v (.pt (.agg [.sl (pts.map cA)]) 0)),(3, .v (.pt (.agg [.fn (.func 80)]) 0)),(4, .v (.pt (.agg [.s m,N q, .s g, .s y]) 0)),(15, .v (.sl (pts.map cA))),(16,E' n),(8, .rs 1036 j 0 (j+1) 2),(17,E' (j+1))],[(1036,⟨j,bJ eg (L (j+1)),true,some 49⟩)],1040⟩) (fun j=>j≤n) 0 (fun j=>by cases j<;>exact bQ rfl) (aL _) ?_ ?_
 ·show AS.Le _ _;exact lE
 ·intro j hj R hR
  cases j with
  |zero=>
   have hgo:=hR 1 (by omega) (by omega)
   simp only[r1,he0,show bJ eg []=[]from rfl,List.nil_append]at hgo
   have f0:=hF 0;have i0:=hI 0;generalize la 0=l0 at*;clear hR hF hI;repeat' first|simp only[go_sem,seval,lP,fb,u0,u2]|refine cP hc1 ?_|refine cP hcx ?_|(refine mS [1010] i0 rfl (by simp[aN,ar,x1,x2,x3,x4,fD]) (by simp[aQ,view,ar,x1,x2,x3,x4,cF]) ?_)|refine cP f0 ?_|refine sB ?_|(first|apply pX|apply bX)<;>intro hc|refine⟨oD,?_⟩|exact oD|fail
   refine hgo _ ?_;exact lE
  |succ j=>
   have q1:=dI mq (L (j+1));have q2:=dT mq (L (j+1));rw[hel]at q1 q2
   by_cases hlt:j+1<n
   ·have hgo:=hR (j+2) (by omega) (by omega)
    simp only[r1 (j+1)]at hgo;have f0:=hF (j+1);have i0:=hI (j+1);have u3:=u1 (j+1) hlt;have ht: ∀ _:True,((j:Int)+1).toNat=j+1:=fun _=>by omega
    generalize la (j+1)=l0 at*;clear hR hF hI;repeat' first|simp only[go_sem,seval,lP,fb,u0,u3,q1,q2,ht trivial]|refine cP hc1 ?_|refine cP hcx ?_|(refine mS [1045] i0 rfl (by simp[aN,ar,x1,x2,x3,x4,fD]) (by simp[aQ,view,ar,x1,x2,x3,x4,cF]) ?_)|refine cP f0 ?_|refine sB ?_|(first|apply pX|apply bX)<;>intro hc|refine⟨oD,?_⟩|exact oD|fail
    refine hgo _ ?_
    (refine AS.Le.of (by first|decide|omega) ?_ ?_<;>simp[cl,cj,aF,ar,AV.bd,AV.bd.bdL,u8,ah,ai,aq])
    all_goals exact fun c hc=>by rcases hc with hc|rfl|rfl<;>first|exact ey hc|rfl
   ·obtain rfl:j+1=n:=by omega
    have q3:=fx mq (L (j+1));have q4:=dL mq (L (j+1));rw[hel]at q4;clear hR hF hI;repeat' first|simp only[go_sem,seval,lP,q1,q2]|(refine mS [1036] hP rfl (by simp[aN,ar,q1,q2,q3,q4,xc]) (by simp[aQ,view,ar,q1,q2,q3,q4,fy]) ?_)|refine sB ?_|(first|apply pX|apply bX)<;>intro hc|refine⟨oD,?_⟩|exact oD|fail
    all_goals rfl
noncomputable def Q3 (name m o base:Bytes) (need count:Int) (vs:List Bytes) (sd:Bytes) (a:Int):Except Int (Nat×List Nat×Nat):=
 if !([m,o,base].all aa)|| !eU vs a then .error 3 else if !kq name then .error 1
 else match Cz m o base vs sd a with
  | .error e=> .error e
  | .ok (y,x,i)=>match xU (num o) x need count vs sd i with
   | .error e=> .error e
   | .ok (ls,j)=> .ok (y,ls,j)
def NX (m base:Nat) (ls:List Nat):List Nat:=ls.map fun s=>base^s%m
def BD (name m o base:Bytes) (need:Int) (vs:List Bytes) (sd:Bytes):Except Int (Nat×List Nat×Nat)→PV
 | .ok (y,ls,j)=> .tup [.agg [.s name, .s m, .s o, .s base,N y,E need, .sl ((NX (num m) (num base) ls).map cA)], .sl (ls.map cA),T vs sd (j:Nat),E 0]
 | .error e=> .tup [Wd, .sl [],T [] [] 0,E e]
theorem K6 {m o base:Bytes} {vs:List Bytes} {sd:Bytes} {a e:Int} (h:Cz m o base vs sd a= .error e):e≠0:=by
 unfold Cz at h
 split at h
 ·injection h with h;omega
 ·split at h
  ·rename_i h1;injection h with h;rw[←h];exact h1
  ·split at h
   ·injection h with h;omega
   ·split at h
    ·rename_i e' he;injection h with h;have:=Bw he;omega
    ·split at h
     ·injection h with h;omega
     ·cases h
structure Vf (m o base:Bytes) (vs:List Bytes) (a:Int) (y x i:Nat):Prop where
 vb:aa base=true
 e:gE m o=0
 o0:o≠[]
 gp:GP m o (num base)
 g1:base≠[1]
 hv:vs.all aa=true
 x0:1≤x
 xq:x<num o
 ye:y=num base^x%num m
 y1:y≠1
 ib:i≤2147483647
theorem Oz {m o base:Bytes} {vs:List Bytes} {sd:Bytes} {a:Int} {y x i:Nat} (lo:o.length≤8) (hl:vs.length<1000000) (h:Cz m o base vs sd a= .ok (y,x,i)):Vf m o base vs a y x i:=by
 unfold Cz at h
 split at h
 ·cases h
 ·rename_i h1
  split at h
  ·cases h
  ·rename_i h2
   split at h
   ·cases h
   ·rename_i h3;have h0:gE m o=0:=by simpa using h2
    simp only[oQ,fF,not_or,Bool.not_eq_false]at h1 h3;have ho:o≠[]:=by simpa using h3.1
    obtain⟨-,-,-,-,hoq⟩:=jY h0;obtain⟨q1,-⟩:=hoq ho;have hqW:=ep lo;have hs:=h3.2;unfold Ef kG at hs;simp only[aZ,fF,beq_eq_false_iff_ne]at hs;obtain⟨vb,gp⟩:=(dp h0).1 hs.1.2;obtain⟨hv,a0,a1⟩:=vP h1.2
    split at h
    ·cases h
    ·rename_i c hc;obtain⟨-,c2,c3⟩:=gU hv (vN (by omega)) hl (by omega) hc
     rw[aK]at c2
     split at h
     ·cases h
     ·rename_i hy;simp only[uf,cX]at h;obtain⟨rfl,rfl,rfl⟩:=h;exact⟨vb,h0,ho,gp,hs.2,hv,by omega,by omega,rfl,hy,c3⟩
theorem Lk {q sec:Nat} {need count:Int} {vs:List Bytes} {sd:Bytes} {i:Nat} {e:Int} (h:xU q sec need count vs sd i= .error e):e≠0:=by
 unfold xU at h
 split at h
 ·injection h with h;omega
 ·split at h
  ·injection h with h;omega
  ·split at h
   ·rename_i e' he;injection h with h;have:=sf he;omega
   ·cases h
theorem Ll {q sec:Nat} {need count:Int} {vs:List Bytes} {sd:Bytes} {i:Nat} {ls:List Nat} {j:Nat} (h:xU q sec need count vs sd i= .ok (ls,j)):1≤need∧need≤count∧count≤255∧count<q∧ls.length=count.toNat∧ ∃l,j2 vs sd (aP q) (need-1).toNat i []= .ok l∧ls=tE q sec l count.toNat∧dS q=true:=by
 unfold xU at h
 split at h
 ·cases h
 ·rename_i h1
  split at h
  ·cases h
  ·rename_i h2
   split at h
   ·cases h
   ·rename_i l hl;simp only[uf,cX]at h;obtain⟨rfl,rfl⟩:=h;exact⟨by omega,by omega,by omega,by omega,CG _ _ _ _,l,hl,rfl,by simpa using h1⟩
theorem OE {q sec:Nat} (h0:0<q) (l:List Bytes) (k:Nat): ∀s∈tE q sec l k,s<q:=fun s hs=>by
 obtain⟨j,-,rfl⟩:=a5.1 hs;have:=vR (q:=(q:Int)) (by omega) ((j+1:Nat):Int) (nI (sec::l.map num))
 omega
theorem JC {name m o:Bytes} (ln:name.length≤60) (lm:m.length≤8) (lo:o.length≤8) (base:Bytes) (need:Int) {count:Int} (hc:count≤8∨count>255) {vs:List Bytes} {sd:Bytes} {a:Int} (hl:vs.length<1000000) (hsd:sd.length<1000000):
  aD Tryz.prog 12 [.s name,G m o, .s base,E need,E count,T vs sd a] (BD name m o base need vs sd (Q3 name m o base need count vs sd a)):=by
 have h1:=mG [m,o,base] (by simp)
 simp only[ba,bG]at h1;have h2:=Bt vs sd a hl;have h3:=Bn name ln;have h4:=Li lm lo base (vs:=vs) (sd:=sd) (a:=a) hl hsd;have f3:=qg 3;have f1:=qg 1;unfold Q3
 cases hb1:[m,o,base].all aa with
 |false=>
  rw[hb1]at h1;simp only[bR,oM,if_true,BD];refine eW Tryz.call12 Tryz.func12 ?_;repeat' first|simp only[go_sem,seval]|refine cP h1 ?_|refine cP f3 ?_|refine sB ?_|(first|apply pX|apply bX)<;>intro hc|refine⟨oD,?_⟩|exact oD|fail
  all_goals rfl
 |true=>
 rw[hb1]at h1
 cases hg:eU vs a with
 |false=>
  rw[hg]at h2;simp only[bR,uq,if_true,BD];refine eW Tryz.call12 Tryz.func12 ?_;repeat' first|simp only[go_sem,seval]|refine cP h1 ?_|refine cP h2 ?_|refine cP f3 ?_|refine sB ?_|(first|apply pX|apply bX)<;>intro hc|refine⟨oD,?_⟩|exact oD|fail
  all_goals rfl
 |true=>
 rw[hg]at h2;simp only[bu,rz,aW,if_false]
 cases hn:kq name with
 |false=>
  rw[hn]at h3;simp only[bR,if_true,BD];refine eW Tryz.call12 Tryz.func12 ?_;repeat' first|simp only[go_sem,seval]|refine cP h1 ?_|refine cP h2 ?_|refine cP h3 ?_|refine cP f1 ?_|refine sB ?_|(first|apply pX|apply bX)<;>intro hc|refine⟨oD,?_⟩|exact oD|fail
  all_goals rfl
 |true=>
 rw[hn]at h3;simp only[bu,aW,if_false]
 cases hs:Cz m o base vs sd a with
 |error e=>
  rw[hs]at h4;have he:=K6 hs;have fe:=qg e;simp only[BD,xg]at h4⊢;clear hs;refine eW Tryz.call12 Tryz.func12 ?_;repeat' first|simp only[go_sem,seval]|refine cP h1 ?_|refine cP h2 ?_|refine cP h3 ?_|refine cP h4 ?_|refine cP fe ?_|refine sB ?_|(first|apply pX|apply bX)<;>intro hc|refine⟨oD,?_⟩|exact oD|fail
  all_goals rfl
 |ok R=>
 obtain⟨y,x,i⟩:=R;rw[hs]at h4;obtain⟨vb,hE,ho,gp,-,hv,x0,xq,hy,-,hi⟩:=Oz lo hl hs;obtain⟨vm,vo,m1,-,hoq⟩:=jY hE;have hqW:=ep lo;simp only[xg]at h4⊢
 cases hp:xU (num o) x need count vs sd i with
 |error e=>
  have h5:=Em hqW (by omega) xq hc hv hi hl hsd hp
  rw[fq vo]at h5;have he:=Lk hp;have fe:=qg e;simp only[BD];clear hs hp;refine eW Tryz.call12 Tryz.func12 ?_;repeat' first|simp only[go_sem,seval]|refine cP h1 ?_|refine cP h2 ?_|refine cP h3 ?_|refine cP h4 ?_|refine cP h5 ?_|refine cP fe ?_|refine sB ?_|(first|apply pX|apply bX)<;>intro hc|refine⟨oD,?_⟩|exact oD|fail
  all_goals rfl
 |ok R=>
 obtain⟨ls,j⟩:=R;have h5:=CI hqW (by omega) xq hc hv hi hl hsd hp
 rw[fq vo]at h5;obtain⟨n1,n2,n3,n4,n5,l,-,hls,-⟩:=Ll hp;have hlq: ∀s∈ls,s<num o:=by rw[hls];exact OE (by omega) l _
 obtain⟨n,hn0⟩: ∃n,n=ls.length:=⟨_,rfl⟩;have lP:ls.length=n:=hn0.symm;have hpos:0<n:=by omega
 simp only[BD];obtain⟨S,hS⟩: ∃S,S=NX (num m) (num base) ls:=⟨_,rfl⟩;have hSl:S.length=n:=by rw[hS,NX,aH,lP]
 have hSg: ∀k,k<n→S.getD k 0=num base^(ls.getD k 0)%num m:=fun k hk=>by
  rw[hS,NX,aX,cH,aU (by omega),aX,aU (by omega)];rfl
 have hEx:=fun s (hsq:s<num o)=>jK lm lo (ng:=false) (e:=aP s) hE gp (vN (by omega)) rfl
 rw[fq vb]at hEx;rw[←hS];have k1:=cu hSl;have k2:=dK S;have k3:=cK hSl;have k4:(az S).length=n:=by rw[aS,hSl]
 clear hs hp hls hS;refine eW Tryz.call12 Tryz.func12 ?_;repeat' first|simp only[go_sem,seval,lP]|refine cP h1 ?_|refine cP h2 ?_|refine cP h3 ?_|refine cP h4 ?_|refine cP h5 ?_|refine sB ?_|(first|apply pX|apply bX)<;>intro hc|refine⟨oD,?_⟩|exact oD|fail
 refine aj (α:=Nat) (fun j=>n-j) (fun k=>match k with|0=>⟨[(2, .v (.s base)),(7, .p 1000 0 0),(11, .p 1001 0 0),(12, .p 1002 0 0),(14, .p 1004 0 0),(20, .v (.sl (ls.map cA))),(21, .p 1059 0 0),(96, .v (.sl (ls.map cA))),(97,E' n),(98, .v (.i .i64 0))],[(1000,⟨0,[.v (.s m), .v (.s o)],false,none⟩),(1001,⟨0,[.v (.sl (vs.map .s)), .v (.s sd), .v (.i .i64 (j:Nat))],false,none⟩),(1002,⟨0,[.v (.s []), .v (.s []), .v (.s []), .v (.s []), .v (.s []), .v (E 0), .sn],false,some 29⟩),(1004,⟨0,[.sn, .v (.s []), .v (.i .i64 0)],false,some 40⟩),(1059,⟨0,[.v (.s name), .v (.s m), .v (.s o), .v (.s base), .v (N y), .v (E need), .sn],false,some 29⟩)],1064⟩|k+1=>⟨[(2, .v (.s base)),(7, .p 1000 0 0),(11, .p 1001 0 0),(12, .p 1002 0 0),(14, .p 1004 0 0),(20, .v (.sl (ls.map cA))),(21, .p 1059 0 0),(96, .v (.sl (ls.map cA))),(97,E' n),(98,E' (k+1))],[(1000,⟨0,[.v (.s m), .v (.s o)],false,none⟩),(1001,⟨0,[.v (.sl (vs.map .s)), .v (.s sd), .v (.i .i64 (j:Nat))],false,none⟩),(1002,⟨0,[.v (.s []), .v (.s []), .v (.s []), .v (.s []), .v (.s []), .v (E 0), .sn],false,some 29⟩),(1004,⟨0,[.sn, .v (.s []), .v (.i .i64 0)],false,some 40⟩),(1059,⟨0,[.v (.s name), .v (.s m), .v (.s o), .v (.s base), .v (N y), .v (E need), .rs 1084 k 0 (k+1) 1],false,some 29⟩),(1084,⟨k,az (S.take (k+1)),true,some 22⟩)],1089⟩) (fun k=>k≤n) 0 (fun k=>by cases k<;>exact bQ rfl) (aL _) ?_ ?_
 ·show AS.Le _ _;exact lE
 ·intro k hk R hR
  cases k with
  |zero=>
   have hgo:=hR 1 (by omega) (by omega)
   simp only[dN 0 (show 0<S.length by omega),List.take_zero,List.nil_append,hSg 0 hpos]at hgo
   have e1:=mZ ls (i:=0) (by omega)
   have hsq:=hlq _ (ay 0 (show 0<ls.length by omega))
   generalize ls.getD 0 0=s0 at*;have hf:=oo (a:=aP s0) (vN (by omega))
   have hx:aD Tryz.prog 46 [G m o, .s base, .agg [.b false, .s (aP s0)]] (.tup [N (num base^s0%num m),E 0]):=by
    have:=hEx s0 hsq;rw[aK]at this;exact this
   generalize num base^s0%num m=v at*;simp only[show az [v]=[AV.v (N v)]from rfl]at hgo
   clear hR hEx hSg hlq h1 h2 h3 h4 h5;repeat' first|simp only[go_sem,seval,lP,e1]|refine cP hf ?_|refine cP hx ?_|refine sB ?_|(first|apply pX|apply bX)<;>intro hc|refine⟨oD,?_⟩|exact oD|fail
   refine hgo _ ?_;exact lE
  |succ k=>
   have hlm:(S.take (k+1)).length=k+1:=by rw[cG];omega
   have g1:=cu hlm;have g2:(az (S.take (k+1))).length=k+1:=by rw[aS,hlm]
   by_cases hlt:k+1<n
   ·have hgo:=hR (k+2) (by omega) (by omega)
    simp only[dN 0 (show k+1<S.length by omega),j4,hSg (k+1) hlt]at hgo
    have e1:=mZ ls (i:=k+1) (by omega)
    have hsq:=hlq _ (ay 0 (show k+1<ls.length by omega))
    generalize ls.getD (k+1) 0=s0 at*;have hf:=oo (a:=aP s0) (vN (by omega))
    have hx:aD Tryz.prog 46 [G m o, .s base, .agg [.b false, .s (aP s0)]] (.tup [N (num base^s0%num m),E 0]):=by
     have:=hEx s0 hsq;rw[aK]at this;exact this
    generalize num base^s0%num m=v at*;clear hR hEx hSg hlq h1 h2 h3 h4 h5;repeat' first|simp only[go_sem,seval,lP,e1,g1,g2]|refine cP hf ?_|refine cP hx ?_|refine sB ?_|(first|apply pX|apply bX)<;>intro hc|refine⟨oD,?_⟩|exact oD|fail
    refine hgo _ ?_
    (refine AS.Le.of (by first|decide|omega) ?_ ?_<;>simp[cl,cj,aF,ar,AV.bd,AV.bd.bdL,u8,ah,ai,aq])
    all_goals exact fun c hc=>hc.elim (fun h=>cZ h) (fun h=>by rw[h];rfl)
   ·obtain rfl:k+1=n:=by omega
    simp only[bM (show S.length≤k+1 by omega)]at g1 g2⊢
    clear hR hEx hSg hlq h1 h2 h3 h4 h5;repeat' first|simp only[go_sem,seval,lP,k1,k2,k3,k4,cF]|refine sB ?_|(first|apply pX|apply bX)<;>intro hc|refine⟨oD,?_⟩|exact oD|fail
    all_goals rfl
end Go.Proofs.YtmobkhegihemeaaGreatDoor
