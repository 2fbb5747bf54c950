/-
  Part of the proof, part KR39. Own work.
-/
import Derived.Test.YtmobkhegihemeaaGreatDoorKR38
set_option linter.all false
namespace Go.Proofs.YtmobkhegihemeaaGreatDoor
open Go Go.Dom Go.Num
set_option maxRecDepth 100000
set_option maxHeartbeats 16000000
def zu (m o x:Bytes):Bool:=fX m o x&& !(x==[1])
theorem uT {m:Bytes} (lm:m.length≤8) {o:Bytes} (lo:o.length≤8) (x:Bytes):aB Tryz.prog 74 [G m o, .s x] (.b (zu m o x)):=by
 have h:=nu lm lo x;unfold zu;generalize fX m o x=b at*;cases b
 ·refine eW Tryz.call74 Tryz.func74 ?_;repeat' first|simp only[go_sem,seval]|refine cP h ?_|refine sB ?_|(first|apply pX|apply bX)<;>intro hc|refine⟨oD,?_⟩|exact oD|fail
  all_goals rfl
 ·refine eW Tryz.call74 Tryz.func74 ?_;repeat' first|simp only[go_sem,seval]|refine cP h ?_|refine sB ?_|(first|apply pX|apply bX)<;>intro hc|refine⟨oD,?_⟩|exact oD|fail
  all_goals rfl
theorem l7 {vs:List Bytes} {sd:Bytes} {i:Nat} {n:Bytes} {e:Int} (h:dw vs sd i n= .error e):e=2∨e=14:=jb h
abbrev SK (m o g y:Bytes):PV:= .agg [.s m, .s o, .s g, .s y]
def fg (m o g y:Bytes):Int:=if !([m,o,g,y].all aa)then 3 else if gE m o≠0 then gE m o else if o==[]|| !zu m o g|| !zu m o y then 13 else 0
theorem sY {m:Bytes} (lm:m.length≤8) {o:Bytes} (lo:o.length≤8) (g y:Bytes):aB Tryz.prog 28 [SK m o g y] (E (fg m o g y)):=by
 have h1:=lh [m,o,g,y] (by simp)
 simp only[List.map_cons,List.map_nil]at h1;have h2:=fp lm lo;have h3:=uT lm lo g;have h4:=uT lm lo y;unfold fg;generalize [m,o,g,y].all aa=b1 at*;generalize zu m o g=b3 at*;generalize zu m o y=b4 at*;cases b1
 ·refine eW Tryz.call28 Tryz.func28 ?_;repeat' first|simp only[go_sem,seval]|refine cP h1 ?_|refine sB ?_|(first|apply pX|apply bX)<;>intro hc|refine⟨oD,?_⟩|exact oD|fail
  all_goals rfl
 ·by_cases h0:gE m o=0
  ·rw[h0]at h2⊢;obtain⟨b2,hb2⟩: ∃b2,(o==([]:Bytes))=b2:=⟨_,rfl⟩;rw[hb2]
   cases b2<;>cases b3<;>cases b4
   all_goals
    refine eW Tryz.call28 Tryz.func28 ?_;repeat' first|simp only[go_sem,seval,hb2]|refine cP h1 ?_|refine cP h2 ?_|refine cP h3 ?_|refine cP h4 ?_|refine sB ?_|(first|apply pX|apply bX)<;>intro hc|refine⟨oD,?_⟩|exact oD|fail
    all_goals rfl
  ·simp only[Bool.not_true,Bool.false_eq_true,if_false,if_pos h0];generalize gE m o=e at*;refine eW Tryz.call28 Tryz.func28 ?_;repeat' first|simp only[go_sem,seval]|refine cP h1 ?_|refine cP h2 ?_|refine sB ?_|(first|apply pX|apply bX)<;>intro hc|refine⟨oD,?_⟩|exact oD|fail
def xC (m o base:Bytes) (vs:List Bytes) (sd:Bytes) (a:Int):Except Int (Nat×Nat×Nat):=
 if !([m,o,base].all aa)|| !bm vs a then .error 3 else if gE m o≠0 then .error (gE m o)else if o==[]|| !zu m o base then .error 13
 else match dw vs sd a.toNat (aK (num o-1))with
  | .error e=> .error e
  | .ok c=>if num base^(num c+1)%num m=1 then .error 13 else .ok (num base^(num c+1)%num m,num c+1,a.toNat+1)
def qT (m o base:Bytes) (vs:List Bytes) (sd:Bytes):Except Int (Nat×Nat×Nat)→PV
 | .ok (y,x,j)=> .tup [.agg [.s m, .s o, .s base,N y],N x,T vs sd (j:Nat),E 0]
 | .error e=> .tup [SK [] [] [] [], .s [],T [] [] 0,E e]
theorem GF {m:Bytes} (lm:m.length≤8) {o:Bytes} (lo:o.length≤8) (base:Bytes) {vs:List Bytes} {sd:Bytes} {a:Int} (hl:vs.length<1000000) (hsd:sd.length<1000000):aB Tryz.prog 44 [G m o, .s base,T vs sd a] (qT m o base vs sd (xC m o base vs sd a)):=by
 have h1:=lh [m,o,base] (by simp)
 simp only[List.map_cons,List.map_nil]at h1;have h2:=fp lm lo;have h3:=uT lm lo base;have h4:=Gu vs sd a hl;unfold xC
 cases hb1:[m,o,base].all aa with
 |false=>
  rw[hb1]at h1;simp only[Bool.not_false,Bool.true_or,if_true,qT];refine eW Tryz.call44 Tryz.func44 ?_;repeat' first|simp only[go_sem,seval]|refine cP h1 ?_|refine sB ?_|(first|apply pX|apply bX)<;>intro hc|refine⟨oD,?_⟩|exact oD|fail
  all_goals rfl
 |true=>
 rw[hb1]at h1
 cases hg:bm vs a with
 |false=>
  rw[hg]at h4;simp only[Bool.not_false,Bool.or_true,if_true,qT];refine eW Tryz.call44 Tryz.func44 ?_;repeat' first|simp only[go_sem,seval]|refine cP h1 ?_|refine cP h4 ?_|refine sB ?_|(first|apply pX|apply bX)<;>intro hc|refine⟨oD,?_⟩|exact oD|fail
  all_goals rfl
 |true=>
 rw[hg]at h4;simp only[Bool.not_true,Bool.or_self,Bool.false_eq_true,if_false]
 by_cases h0:gE m o=0
 case neg=>
  rw[if_pos h0];simp only[qT];generalize gE m o=e at*;refine eW Tryz.call44 Tryz.func44 ?_;repeat' first|simp only[go_sem,seval]|refine cP h1 ?_|refine cP h4 ?_|refine cP h2 ?_|refine sB ?_|(first|apply pX|apply bX)<;>intro hc|refine⟨oD,?_⟩|exact oD|fail
  all_goals rfl
 rw[h0]at h2;rw[if_neg (by simpa using h0)]
 cases hb3:zu m o base with
 |false=>
  rw[hb3]at h3;simp only[Bool.not_false,Bool.or_true,if_true,qT]
  by_cases ho:o=[]
  ·subst ho;refine eW Tryz.call44 Tryz.func44 ?_;repeat' first|simp only[go_sem,seval,beq_self_eq_true]|refine cP h1 ?_|refine cP h4 ?_|refine cP h2 ?_|refine cP h3 ?_|refine sB ?_|(first|apply pX|apply bX)<;>intro hc|refine⟨oD,?_⟩|exact oD|fail
   all_goals rfl
  ·have ho':(o==([]:Bytes))=false:=by simpa using ho
   refine eW Tryz.call44 Tryz.func44 ?_;repeat' first|simp only[go_sem,seval,ho']|refine cP h1 ?_|refine cP h4 ?_|refine cP h2 ?_|refine cP h3 ?_|refine sB ?_|(first|apply pX|apply bX)<;>intro hc|refine⟨oD,?_⟩|exact oD|fail
   all_goals rfl
 |true=>
 rw[hb3]at h3
 by_cases ho:o=[]
 ·subst ho;simp only[beq_self_eq_true,Bool.true_or,if_true,qT];refine eW Tryz.call44 Tryz.func44 ?_;repeat' first|simp only[go_sem,seval,beq_self_eq_true]|refine cP h1 ?_|refine cP h4 ?_|refine cP h2 ?_|refine cP h3 ?_|refine sB ?_|(first|apply pX|apply bX)<;>intro hc|refine⟨oD,?_⟩|exact oD|fail
  all_goals rfl
 have ho':(o==([]:Bytes))=false:=by simpa using ho
 simp only[ho',Bool.not_true,Bool.or_self,Bool.false_eq_true,if_false];obtain⟨vm,vo,m1,-,hoq⟩:=fb h0;obtain⟨q1,-⟩:=hoq ho;have hqW:=cE lo;have hmW:=cE lm;have hW:=gF;unfold zu at hb3;rw[Bool.and_eq_true]at hb3;have hin:=hb3.1;unfold fX at hin;rw[Bool.and_eq_true]at hin;obtain⟨vb,gp⟩:=(a7 h0).1 hin.2;obtain⟨hv,a0,a1⟩:=jc hg;obtain⟨i,rfl⟩: ∃i:Nat,a=i:=⟨a.toNat,by omega⟩
 rw[Int.toNat_natCast];have s1:=oK (a:=num o) (b:=1) (by omega) (by omega)
 rw[dy vo,←cA]at s1;have hbn:aK (num o-1)≠[]:=fun h=>by have:=eV.1 h;omega
 have dB:=j7 (vs:=vs) (sd:=sd) (i:=i) (n:=aK (num o-1)) hv (vN (by omega)) hbn (by omega) hl hsd
 cases hd:dw vs sd i (aK (num o-1))with
 |error e=>
  rw[hd]at dB;have he:=l7 hd;simp only[iy,qT]at dB⊢;clear hd;refine eW Tryz.call44 Tryz.func44 ?_;repeat' first|simp only[go_sem,seval,ho']|refine cP h1 ?_|refine cP h4 ?_|refine cP h2 ?_|refine cP h3 ?_|refine cP s1 ?_|refine cP dB ?_|refine sB ?_|(first|apply pX|apply bX)<;>intro hc|refine⟨oD,?_⟩|exact oD|fail
  all_goals rfl
 |ok c=>
  rw[hd]at dB;obtain⟨vc,c2,c3⟩:=dp hv (vN (by omega)) hl (by omega) hd
  rw[aG]at c2;simp only[iy]at dB;have s2:=HA (a:=num c) (b:=1) (by omega)
  rw[dy vc,←cA]at s2;have s3:=eX lm lo (ng:=false) (e:=aK (num c+1)) h0 gp (vN (by omega)) rfl
  rw[dy vb,aG]at s3;have hz:bJ (num m) (num base) false (num c+1)=num base^(num c+1)%num m:=rfl;rw[hz]at s3;simp only;generalize num base^(num c+1)%num m=y at*;have e1:=O3 y;clear hd hz
  by_cases hy:y=1
  ·rw[if_pos hy];rw[decide_eq_true hy]at e1;simp only[qT];refine eW Tryz.call44 Tryz.func44 ?_;repeat' first|simp only[go_sem,seval,ho',e1]|refine cP h1 ?_|refine cP h4 ?_|refine cP h2 ?_|refine cP h3 ?_|refine cP s1 ?_|refine cP dB ?_|refine cP s2 ?_|refine cP s3 ?_|refine sB ?_|(first|apply pX|apply bX)<;>intro hc|refine⟨oD,?_⟩|exact oD|fail
   all_goals rfl
  ·rw[if_neg hy];rw[decide_eq_false hy]at e1;simp only[qT];refine eW Tryz.call44 Tryz.func44 ?_;repeat' first|simp only[go_sem,seval,ho',e1]|refine cP h1 ?_|refine cP h4 ?_|refine cP h2 ?_|refine cP h3 ?_|refine cP s1 ?_|refine cP dB ?_|refine cP s2 ?_|refine cP s3 ?_|refine sB ?_|(first|apply pX|apply bX)<;>intro hc|refine⟨oD,?_⟩|exact oD|fail
   all_goals rfl
theorem vV (n:Bytes) (hn:n.length≤60):aB Tryz.prog 27 [.s n] (.b (jH n)):=by
 refine eW Tryz.call27 Tryz.func27 ?_;repeat' first|simp only[go_sem,seval]|refine sB ?_|(first|apply pX|apply bX)<;>intro hc|refine⟨oD,?_⟩|exact oD|fail
 refine aj (α:=Nat) (fun i=>n.length-i) (fun i=>⟨[(0, .v (.s n)),(7, .v (.i .i64 n.length)),(8, .v (.i .i64 (i:Nat)))],[],_⟩) (fun i=>i≤n.length∧ ∀j,j<i→yw j (LW n j)=false) 0 (fun _=>Nat.le_refl _) ⟨Nat.zero_le _,fun j hj=>by omega⟩ ?_ ?_
 ·exact lE
 ·rintro i ⟨hi,ha⟩ R hR
  by_cases hlt:i<n.length
  ·have hlt':(i:Int)<n.length:=by omega
   have hbad:yw i (LW n i)=true→jH n=false:=by
    intro h;unfold jH;have:(List.range n.length).all (fun i=> !yw i (LW n i))=false:=by
     rw[Bool.eq_false_iff];intro g;have:=List.all_eq_true.1 g i (List.mem_range.2 hlt);rw[h]at this;cases this
    rw[this];rfl
   have hgo:yw i (LW n i)=false→ ∀s',(AS.mk [(0, .v (.s n)),(7, .v (.i .i64 n.length)),(8, .v (.i .i64 ((i+1:Nat):Int)))] [] 1004).Le s'→R s':=by
    intro h s' hs;refine hR (i+1) ⟨by omega,fun j hj=> ?_⟩ (by omega) s' hs
    by_cases e:j=i
    ·subst e;exact h
    ·exact ha j (by omega)
   clear hR ha;obtain⟨c,hcc⟩: ∃c,LW n i=c:=⟨_,rfl⟩;have hcd:((n.getD i 0).toNat:Int)=c:=hcc;have h0:0≤c∧c<256:=by rw[←hcd];have:=(n.getD i 0).toNat_lt;omega
   rw[hcc]at hbad hgo;unfold yw at hbad hgo;obtain⟨b1,h1⟩: ∃b,decide (c≥97)=b:=⟨_,rfl⟩;obtain⟨b2,h2⟩: ∃b,decide (c≤122)=b:=⟨_,rfl⟩;obtain⟨b3,h3⟩: ∃b,decide (c≥65)=b:=⟨_,rfl⟩;obtain⟨b4,h4⟩: ∃b,decide (c≤90)=b:=⟨_,rfl⟩;obtain⟨b5,h5⟩: ∃b,((i:Int)==0)=b:=⟨_,rfl⟩;obtain⟨b6,h6⟩: ∃b,(c !=95)=b:=⟨_,rfl⟩;obtain⟨b7,h7⟩: ∃b,decide (c<48)=b:=⟨_,rfl⟩;obtain⟨b8,h8⟩: ∃b,decide (c>57)=b:=⟨_,rfl⟩;rw[h1,h2,h3,h4,h5,h6,h7,h8]at hbad hgo;have e1:decide ((i:Int)<(n.length:Int))=true:=decide_eq_true hlt';repeat' first|simp only[go_sem,seval,hcd,h1,h2,h3,h4,h5,h6,h7,h8,e1]|refine sB ?_|(first|apply pX|apply bX)<;>intro hc|refine⟨oD,?_⟩|exact oD|fail
   all_goals clear h1 h2 h3 h4 h5 h6 h7 h8 hcd hcc h0
   all_goals try simp only[Bool.not_eq_true',Bool.not_eq_false']at*
   all_goals subst_vars
   all_goals first
     |(refine hgo rfl _ ?_;(refine AS.Le.of (by first|decide|omega) ?_ ?_<;>simp[bL,bK,aD,ai,AV.bd,AV.bd.bdL,u8,af,ah,ak]);done)
     |(rw[hbad rfl];done)
     |(cases b6<;>first|(simp at hc;done)|(refine hgo rfl _ ?_;(refine AS.Le.of (by first|decide|omega) ?_ ?_<;>simp[bL,bK,aD,ai,AV.bd,AV.bd.bdL,u8,af,ah,ak]);done)|(rw[hbad rfl];done)|fail)
     |fail
  ·obtain rfl:i=n.length:=by omega
   have e:jH n=(!(n==[])&&decide (n.length≤32)):=by
    unfold jH;have:(List.range n.length).all (fun i=> !yw i (LW n i))=true:=by
     rw[List.all_eq_true];intro j hj;rw[ha j (List.mem_range.1 hj)];rfl
    rw[this,Bool.true_and]
   rw[e];have e2:decide ((n.length:Int)≤32)=decide (n.length≤32):=by rw[decide_eq_decide];omega
   clear ha hR e;repeat' first|simp only[go_sem,seval]|refine sB ?_|(first|apply pX|apply bX)<;>intro hc|refine⟨oD,?_⟩|exact oD|fail
   all_goals simp_all
structure CK where
 name:Bytes
 m:Bytes
 o:Bytes
 g:Bytes
 y:Bytes
 need:Int
 sh:List Bytes
def CK.pv (c:CK):PV:= .agg [.s c.name, .s c.m, .s c.o, .s c.g, .s c.y,E c.need, .sl (c.sh.map .s)]
abbrev Ru:PV:= .agg [.s [], .s [], .s [], .s [], .s [],E 0, .sl []]
theorem lU (e:Int):aB Tryz.prog 42 [E e] (.tup [Ru, .sl [],T [] [] 0,E e]):=by
 refine eW Tryz.call42 Tryz.func42 ?_;repeat' first|simp only[go_sem,seval]|refine sB ?_|(first|apply pX|apply bX)<;>intro hc|refine⟨oD,?_⟩|exact oD|fail
 all_goals rfl
theorem vZ (c:CK):aB Tryz.prog 65 [c.pv] (.agg [.s c.o, .s [2]]):=by
 unfold CK.pv;refine eW Tryz.call65 Tryz.func65 ?_;repeat' first|simp only[go_sem,seval]|refine cP Oc ?_|refine sB ?_|(first|apply pX|apply bX)<;>intro hc|refine⟨oD,?_⟩|exact oD|fail
 all_goals rfl
def jP (c:CK) (i:Nat):Bytes:=[99,111,117,114,116,32]++c.name++[46]++Lib.decDigits i
theorem Ah (c:CK) (hn:c.name.length≤1000) {i:Nat} (hi:i<100):aB Tryz.prog 66 [c.pv,E i] (.s (jP c i)):=by
 have h:=zY i (by omega)
 have hl:(Lib.decDigits i).length≤2:=by
  have: ∀i,i<100→(Lib.decDigits i).length≤2:=by decide+kernel
  exact this i hi
 unfold CK.pv jP;generalize Lib.decDigits i=d at*;refine eW Tryz.call66 Tryz.func66 ?_;repeat' first|simp only[go_sem,seval,List.length_append]|refine cP h ?_|refine sB ?_|(first|apply pX|apply bX)<;>intro hc|refine⟨oD,?_⟩|exact oD|fail
 all_goals rfl
theorem Ai (t b:Bytes):aB Tryz.prog 122 [.s t, .s b] (cG.pv ⟨0,t,[ru b 0]⟩):=by
 unfold cG.pv;refine eW Tryz.call122 Tryz.func122 ?_;repeat' first|simp only[go_sem,seval]|refine cP Hr ?_|refine sB ?_|(first|apply pX|apply bX)<;>intro hc|refine⟨oD,?_⟩|exact oD|fail
 all_goals rfl
def bG (c:CK) (i:Nat) (a d:Bytes):bQ:=⟨[(c.m,c.o)],[[]],[⟨0,c.sh.getD (i-1) [],[ru c.g 0]⟩,⟨0,d,[ru a 0]⟩]⟩
theorem Ap (c:CK) {i:Nat} (h1:1≤i) (hi:i≤c.sh.length) (hl:c.sh.length<1000000) (a d:Bytes):aB Tryz.prog 67 [c.pv,E i, .s a, .s d] (bG c i a d).pv:=by
 obtain⟨j,rfl⟩: ∃j,i=j+1:=⟨i-1,by omega⟩
 have e1:=eg (l:=c.sh) (x:=j) (by omega)
 have hw: ∀ _:True,IntKind.i64.wrap (((j+1:Nat):Int)-1)=(j:Int):=fun _=>by rw[IntWalk.i64_in _ (by omega)];omega
 have l1:(c.sh.map PV.s).length=c.sh.length:=List.length_map ..;unfold bG CK.pv bQ.pv;rw[Nat.add_sub_cancel];have c1:=Ai (c.sh.getD j []) c.g;have c2:=Ai d a;generalize c.sh.getD j []=t at*;simp only[cG.pv,List.map_cons,List.map_nil,dL.pv,ru]at c1 c2⊢;refine eW Tryz.call67 Tryz.func67 ?_;repeat' first|simp only[go_sem,seval,hw trivial,l1,e1]|refine cP c1 ?_|refine cP c2 ?_|refine sB ?_|(first|apply pX|apply bX)<;>intro hc|refine⟨oD,?_⟩|exact oD|fail
 all_goals rfl
def Cl (c:CK) (i:Int) (xs:List Bytes):Int:=if i<1∨i>c.sh.length then 2 else if !(xs.all (fX c.m c.o))then 13 else 0
theorem Ak (c:CK) (lm:c.m.length≤8) (lo:c.o.length≤8) (hl:c.sh.length<1000000) (i:Int) {xs:List Bytes} (hx:xs.length<1000000):aB Tryz.prog 63 [c.pv,E i, .sl (xs.map .s)] (E (Cl c i xs)):=by
 have l1:(c.sh.map PV.s).length=c.sh.length:=List.length_map ..;have l2:(xs.map PV.s).length=xs.length:=List.length_map ..;obtain⟨name,m,o,g,y,need,sh⟩:=c;unfold Cl CK.pv;simp only at*
 by_cases h:i<1∨i>(sh.length:Int)
 ·rw[if_pos h]
  by_cases h1:i<1
  ·refine eW Tryz.call63 Tryz.func63 ?_;repeat' first|simp only[go_sem,seval,l1]|refine sB ?_|(first|apply pX|apply bX)<;>intro hc|refine⟨oD,?_⟩|exact oD|fail
   all_goals rfl
  ·have h2:i>(sh.length:Int):=by omega
   refine eW Tryz.call63 Tryz.func63 ?_;repeat' first|simp only[go_sem,seval,l1]|refine sB ?_|(first|apply pX|apply bX)<;>intro hc|refine⟨oD,?_⟩|exact oD|fail
   all_goals rfl
 rw[if_neg h];have h1: ¬i<1:=fun g=>h (.inl g)
 have h2: ¬i>(sh.length:Int):=fun g=>h (.inr g)
 refine eW Tryz.call63 Tryz.func63 ?_;repeat' first|simp only[go_sem,seval,l1]|refine sB ?_|(first|apply pX|apply bX)<;>intro hc|refine⟨oD,?_⟩|exact oD|fail
 refine aj (α:=Nat) (fun i=>xs.length-i) (fun i=>⟨[(3, .p 1000 0 0),(18, .v (.sl (xs.map .s))),(19,E' xs.length),(20,E' i)],[(1000,⟨0,[.v (.s name), .v (.s m), .v (.s o), .v (.s g), .v (.s y), .v (E need), .v (.sl (sh.map .s))],false,none⟩)],_⟩) (fun i=>i≤xs.length∧(xs.drop i).all (fX m o)=xs.all (fX m o)) 0 (fun _=>Nat.le_refl _) ⟨Nat.zero_le _,rfl⟩ ?_ ?_
 ·exact lE
 ·rintro k ⟨hi,hf⟩ R hR;rw[←hf]
  by_cases hlt:k<xs.length
  ·have e1:=eg hlt;have hgo:=hR (k+1);rw[←hf]at hgo;rw[aJ [] hlt,List.all_cons]at hgo⊢;generalize xs.getD k []=x at*;have hv:=nu lm lo x;clear hR hf;generalize fX m o x=b at*;cases b
   ·repeat' first|simp only[go_sem,seval,l2,e1]|refine cP hv ?_|refine sB ?_|(first|apply pX|apply bX)<;>intro hc|refine⟨oD,?_⟩|exact oD|fail
    all_goals simp
   ·have hgo:=hgo ⟨by omega,by simp⟩ (by omega)
    repeat' first|simp only[go_sem,seval,l2,e1]|refine cP hv ?_|refine sB ?_|(first|apply pX|apply bX)<;>intro hc|refine⟨oD,?_⟩|exact oD|fail
    refine hgo _ ?_;exact lE
  ·obtain rfl:k=xs.length:=by omega
   rw[List.drop_length];repeat' first|simp only[go_sem,seval,l2]|refine sB ?_|(first|apply pX|apply bX)<;>intro hc|refine⟨oD,?_⟩|exact oD|fail
   all_goals rfl
noncomputable def wD (name m o base:Bytes) (need count:Int) (vs:List Bytes) (sd:Bytes) (a:Int):Except Int (Nat×List Nat×Nat):=
 if !([m,o,base].all aa)|| !bm vs a then .error 3 else if !jH name then .error 1
 else match xC m o base vs sd a with
  | .error e=> .error e
  | .ok (y,x,i)=>match rV (num o) x need count vs sd i with
   | .error e=> .error e
   | .ok (ls,j)=> .ok (y,ls,j)
def ei (m base:Nat) (ls:List Nat):List Nat:=ls.map fun s=>base^s%m
def rO (name m o base:Bytes) (need:Int) (vs:List Bytes) (sd:Bytes):Except Int (Nat×List Nat×Nat)→PV
 | .ok (y,ls,j)=> .tup [.agg [.s name, .s m, .s o, .s base,N y,E need, .sl ((ei (num m) (num base) ls).map bO)], .sl (ls.map bO),T vs sd (j:Nat),E 0]
 | .error e=> .tup [Ru, .sl [],T [] [] 0,E e]
theorem xD {m o base:Bytes} {vs:List Bytes} {sd:Bytes} {a e:Int} (h:xC m o base vs sd a= .error e):e≠0:=by
 unfold xC at h
 split at h
 ·injection h with h;omega
 ·split at h
  ·rename_i h1;injection h with h;rw[←h];exact h1
  ·split at h
   ·injection h with h;omega
   ·split at h
    ·rename_i e' he;injection h with h;have:=l7 he;omega
    ·split at h
     ·injection h with h;omega
     ·cases h
structure Qo (m o base:Bytes) (vs:List Bytes) (a:Int) (y x i:Nat):Prop where
 vb:aa base=true
 e:gE m o=0
 o0:o≠[]
 gp:GP m o (num base)
 g1:base≠[1]
 hv:vs.all aa=true
 x0:1≤x
 xq:x<num o
 ye:y=num base^x%num m
 y1:y≠1
 ib:i≤2147483647
theorem Bo {m o base:Bytes} {vs:List Bytes} {sd:Bytes} {a:Int} {y x i:Nat} (lo:o.length≤8) (hl:vs.length<1000000) (h:xC m o base vs sd a= .ok (y,x,i)):Qo m o base vs a y x i:=by
 unfold xC at h
 split at h
 ·cases h
 ·rename_i h1
  split at h
  ·cases h
  ·rename_i h2
   split at h
   ·cases h
   ·rename_i h3;have h0:gE m o=0:=by simpa using h2
    simp only[Bool.or_eq_true,Bool.not_eq_true',not_or,Bool.not_eq_false]at h1 h3;have ho:o≠[]:=by simpa using h3.1
    obtain⟨-,-,-,-,hoq⟩:=fb h0;obtain⟨q1,-⟩:=hoq ho;have hqW:=cE lo;have hs:=h3.2;unfold zu fX at hs;simp only[Bool.and_eq_true,Bool.not_eq_true',beq_eq_false_iff_ne]at hs;obtain⟨vb,gp⟩:=(a7 h0).1 hs.1.2;obtain⟨hv,a0,a1⟩:=jc h1.2
    split at h
    ·cases h
    ·rename_i c hc;obtain⟨-,c2,c3⟩:=dp hv (vN (by omega)) hl (by omega) hc
     rw[aG]at c2
     split at h
     ·cases h
     ·rename_i hy;simp only[Except.ok.injEq,Prod.mk.injEq]at h;obtain⟨rfl,rfl,rfl⟩:=h;exact⟨vb,h0,ho,gp,hs.2,hv,by omega,by omega,rfl,hy,c3⟩
theorem xO {q sec:Nat} {need count:Int} {vs:List Bytes} {sd:Bytes} {i:Nat} {e:Int} (h:rV q sec need count vs sd i= .error e):e≠0:=by
 unfold rV at h
 split at h
 ·injection h with h;omega
 ·split at h
  ·injection h with h;omega
  ·split at h
   ·rename_i e' he;injection h with h;have:=nF he;omega
   ·cases h
theorem xP {q sec:Nat} {need count:Int} {vs:List Bytes} {sd:Bytes} {i:Nat} {ls:List Nat} {j:Nat} (h:rV q sec need count vs sd i= .ok (ls,j)):1≤need∧need≤count∧count≤255∧count<q∧ls.length=count.toNat∧ ∃l,fP vs sd (aK q) (need-1).toNat i []= .ok l∧ls=mJ q sec l count.toNat∧cT q=true:=by
 unfold rV at h
 split at h
 ·cases h
 ·rename_i h1
  split at h
  ·cases h
  ·rename_i h2
   split at h
   ·cases h
   ·rename_i l hl;simp only[Except.ok.injEq,Prod.mk.injEq]at h;obtain⟨rfl,rfl⟩:=h;exact⟨by omega,by omega,by omega,by omega,xL _ _ _ _,l,hl,rfl,by simpa using h1⟩
theorem Br {q sec:Nat} (h0:0<q) (l:List Bytes) (k:Nat): ∀s∈mJ q sec l k,s<q:=fun s hs=>by
 obtain⟨j,-,rfl⟩:=List.mem_map.1 hs;have:=nA (q:=(q:Int)) (by omega) ((j+1:Nat):Int) (nI (sec::l.map num))
 omega
theorem wG {name m o:Bytes} (ln:name.length≤60) (lm:m.length≤8) (lo:o.length≤8) (base:Bytes) (need:Int) {count:Int} (hc:count≤8∨count>255) {vs:List Bytes} {sd:Bytes} {a:Int} (hl:vs.length<1000000) (hsd:sd.length<1000000):
  aB Tryz.prog 12 [.s name,G m o, .s base,E need,E count,T vs sd a] (rO name m o base need vs sd (wD name m o base need count vs sd a)):=by
 have h1:=iZ [m,o,base] (by simp)
 simp only[List.map_cons,List.map_nil]at h1;have h2:=we vs sd a hl;have h3:=vV name ln;have h4:=GF lm lo base (vs:=vs) (sd:=sd) (a:=a) hl hsd;have f3:=lU 3;have f1:=lU 1;unfold wD
 cases hb1:[m,o,base].all aa with
 |false=>
  rw[hb1]at h1;simp only[Bool.not_false,Bool.true_or,if_true,rO];refine eW Tryz.call12 Tryz.func12 ?_;repeat' first|simp only[go_sem,seval]|refine cP h1 ?_|refine cP f3 ?_|refine sB ?_|(first|apply pX|apply bX)<;>intro hc|refine⟨oD,?_⟩|exact oD|fail
  all_goals rfl
 |true=>
 rw[hb1]at h1
 cases hg:bm vs a with
 |false=>
  rw[hg]at h2;simp only[Bool.not_false,Bool.or_true,if_true,rO];refine eW Tryz.call12 Tryz.func12 ?_;repeat' first|simp only[go_sem,seval]|refine cP h1 ?_|refine cP h2 ?_|refine cP f3 ?_|refine sB ?_|(first|apply pX|apply bX)<;>intro hc|refine⟨oD,?_⟩|exact oD|fail
  all_goals rfl
 |true=>
 rw[hg]at h2;simp only[Bool.not_true,Bool.or_self,Bool.false_eq_true,if_false]
 cases hn:jH name with
 |false=>
  rw[hn]at h3;simp only[Bool.not_false,if_true,rO];refine eW Tryz.call12 Tryz.func12 ?_;repeat' first|simp only[go_sem,seval]|refine cP h1 ?_|refine cP h2 ?_|refine cP h3 ?_|refine cP f1 ?_|refine sB ?_|(first|apply pX|apply bX)<;>intro hc|refine⟨oD,?_⟩|exact oD|fail
  all_goals rfl
 |true=>
 rw[hn]at h3;simp only[Bool.not_true,Bool.false_eq_true,if_false]
 cases hs:xC m o base vs sd a with
 |error e=>
  rw[hs]at h4;have he:=xD hs;have fe:=lU e;simp only[rO,qT]at h4⊢;clear hs;refine eW Tryz.call12 Tryz.func12 ?_;repeat' first|simp only[go_sem,seval]|refine cP h1 ?_|refine cP h2 ?_|refine cP h3 ?_|refine cP h4 ?_|refine cP fe ?_|refine sB ?_|(first|apply pX|apply bX)<;>intro hc|refine⟨oD,?_⟩|exact oD|fail
  all_goals rfl
 |ok R=>
 obtain⟨y,x,i⟩:=R;rw[hs]at h4;obtain⟨vb,hE,ho,gp,-,hv,x0,xq,hy,-,hi⟩:=Bo lo hl hs;obtain⟨vm,vo,m1,-,hoq⟩:=fb hE;have hqW:=cE lo;simp only[qT]at h4⊢
 cases hp:rV (num o) x need count vs sd i with
 |error e=>
  have h5:=zE hqW (by omega) xq hc hv hi hl hsd hp
  rw[dy vo]at h5;have he:=xO hp;have fe:=lU e;simp only[rO];clear hs hp;refine eW Tryz.call12 Tryz.func12 ?_;repeat' first|simp only[go_sem,seval]|refine cP h1 ?_|refine cP h2 ?_|refine cP h3 ?_|refine cP h4 ?_|refine cP h5 ?_|refine cP fe ?_|refine sB ?_|(first|apply pX|apply bX)<;>intro hc|refine⟨oD,?_⟩|exact oD|fail
  all_goals rfl
 |ok R=>
 obtain⟨ls,j⟩:=R;have h5:=xQ hqW (by omega) xq hc hv hi hl hsd hp
 rw[dy vo]at h5;obtain⟨n1,n2,n3,n4,n5,l,-,hls,-⟩:=xP hp;have hlq: ∀s∈ls,s<num o:=by rw[hls];exact Br (by omega) l _
 obtain⟨n,hn0⟩: ∃n,n=ls.length:=⟨_,rfl⟩;have lP:ls.length=n:=hn0.symm;have hpos:0<n:=by omega
 simp only[rO];obtain⟨S,hS⟩: ∃S,S=ei (num m) (num base) ls:=⟨_,rfl⟩;have hSl:S.length=n:=by rw[hS,ei,List.length_map,lP]
 have hSg: ∀k,k<n→S.getD k 0=num base^(ls.getD k 0)%num m:=fun k hk=>by
  rw[hS,ei,List.getD_eq_getElem?_getD,List.getElem?_map,List.getElem?_eq_getElem (by omega),List.getD_eq_getElem?_getD,List.getElem?_eq_getElem (by omega)];rfl
 have hEx:=fun s (hsq:s<num o)=>eX lm lo (ng:=false) (e:=aK s) hE gp (vN (by omega)) rfl
 rw[dy vb]at hEx;rw[←hS];have k1:=cr hSl;have k2:=dR S;have k3:=cZ hSl;have k4:(aA S).length=n:=by rw[aU,hSl]
 clear hs hp hls hS;refine eW Tryz.call12 Tryz.func12 ?_;repeat' first|simp only[go_sem,seval,lP]|refine cP h1 ?_|refine cP h2 ?_|refine cP h3 ?_|refine cP h4 ?_|refine cP h5 ?_|refine sB ?_|(first|apply pX|apply bX)<;>intro hc|refine⟨oD,?_⟩|exact oD|fail
 refine aj (α:=Nat) (fun j=>n-j) (fun k=>match k with|0=>⟨[(2, .v (.s base)),(7, .p 1000 0 0),(11, .p 1001 0 0),(12, .p 1002 0 0),(14, .p 1004 0 0),(20, .v (.sl (ls.map bO))),(21, .p 1059 0 0),(96, .v (.sl (ls.map bO))),(97,E' n),(98, .v (.i .i64 0))],[(1000,⟨0,[.v (.s m), .v (.s o)],false,none⟩),(1001,⟨0,[.v (.sl (vs.map .s)), .v (.s sd), .v (.i .i64 (j:Nat))],false,none⟩),(1002,⟨0,[.v (.s []), .v (.s []), .v (.s []), .v (.s []), .v (.s []), .v (E 0), .sn],false,some 29⟩),(1004,⟨0,[.sn, .v (.s []), .v (.i .i64 0)],false,some 40⟩),(1059,⟨0,[.v (.s name), .v (.s m), .v (.s o), .v (.s base), .v (N y), .v (E need), .sn],false,some 29⟩)],1064⟩|k+1=>⟨[(2, .v (.s base)),(7, .p 1000 0 0),(11, .p 1001 0 0),(12, .p 1002 0 0),(14, .p 1004 0 0),(20, .v (.sl (ls.map bO))),(21, .p 1059 0 0),(96, .v (.sl (ls.map bO))),(97,E' n),(98,E' (k+1))],[(1000,⟨0,[.v (.s m), .v (.s o)],false,none⟩),(1001,⟨0,[.v (.sl (vs.map .s)), .v (.s sd), .v (.i .i64 (j:Nat))],false,none⟩),(1002,⟨0,[.v (.s []), .v (.s []), .v (.s []), .v (.s []), .v (.s []), .v (E 0), .sn],false,some 29⟩),(1004,⟨0,[.sn, .v (.s []), .v (.i .i64 0)],false,some 40⟩),(1059,⟨0,[.v (.s name), .v (.s m), .v (.s o), .v (.s base), .v (N y), .v (E need), .rs 1084 k 0 (k+1) 1],false,some 29⟩),(1084,⟨k,aA (S.take (k+1)),true,some 22⟩)],1089⟩) (fun k=>k≤n) 0 (fun k=>by cases k<;>exact Nat.le_of_ble_eq_true rfl) (Nat.zero_le _) ?_ ?_
 ·show AS.Le _ _;exact lE
 ·intro k hk R hR
  cases k with
  |zero=>
   have hgo:=hR 1 (by omega) (by omega)
   simp only[cv 0 (show 0<S.length by omega),List.take_zero,List.nil_append,hSg 0 hpos]at hgo
   have e1:=ny ls (i:=0) (by omega)
   have hsq:=hlq _ (au 0 (show 0<ls.length by omega))
   generalize ls.getD 0 0=s0 at*;have hf:=j8 (a:=aK s0) (vN (by omega))
   have hx:aB Tryz.prog 46 [G m o, .s base, .agg [.b false, .s (aK s0)]] (.tup [N (num base^s0%num m),E 0]):=by
    have:=hEx s0 hsq;rw[aG]at this;exact this
   generalize num base^s0%num m=v at*;simp only[show aA [v]=[AV.v (N v)]from rfl]at hgo
   clear hR hEx hSg hlq h1 h2 h3 h4 h5;repeat' first|simp only[go_sem,seval,lP,e1]|refine cP hf ?_|refine cP hx ?_|refine sB ?_|(first|apply pX|apply bX)<;>intro hc|refine⟨oD,?_⟩|exact oD|fail
   refine hgo _ ?_;exact lE
  |succ k=>
   have hlm:(S.take (k+1)).length=k+1:=by rw[List.length_take];omega
   have g1:=cr hlm;have g2:(aA (S.take (k+1))).length=k+1:=by rw[aU,hlm]
   by_cases hlt:k+1<n
   ·have hgo:=hR (k+2) (by omega) (by omega)
    simp only[cv 0 (show k+1<S.length by omega),iI,hSg (k+1) hlt]at hgo
    have e1:=ny ls (i:=k+1) (by omega)
    have hsq:=hlq _ (au 0 (show k+1<ls.length by omega))
    generalize ls.getD (k+1) 0=s0 at*;have hf:=j8 (a:=aK s0) (vN (by omega))
    have hx:aB Tryz.prog 46 [G m o, .s base, .agg [.b false, .s (aK s0)]] (.tup [N (num base^s0%num m),E 0]):=by
     have:=hEx s0 hsq;rw[aG]at this;exact this
    generalize num base^s0%num m=v at*;clear hR hEx hSg hlq h1 h2 h3 h4 h5;repeat' first|simp only[go_sem,seval,lP,e1,g1,g2]|refine cP hf ?_|refine cP hx ?_|refine sB ?_|(first|apply pX|apply bX)<;>intro hc|refine⟨oD,?_⟩|exact oD|fail
    refine hgo _ ?_
    (refine AS.Le.of (by first|decide|omega) ?_ ?_<;>simp[bL,bK,aD,ai,AV.bd,AV.bd.bdL,u8,af,ah,ak])
    all_goals exact fun c hc=>hc.elim (fun h=>de h) (fun h=>by rw[h];rfl)
   ·obtain rfl:k+1=n:=by omega
    simp only[List.take_of_length_le (show S.length≤k+1 by omega)]at g1 g2⊢
    clear hR hEx hSg hlq h1 h2 h3 h4 h5;repeat' first|simp only[go_sem,seval,lP,k1,k2,k3,k4,cH]|refine sB ?_|(first|apply pX|apply bX)<;>intro hc|refine⟨oD,?_⟩|exact oD|fail
    all_goals rfl
theorem tM {n:Nat} (h:n<18446744073709551616):aB Tryz.prog 80 [E n] (N n):=by
 have h1:=fI n h;have hw: ∀ _:True,IntKind.u64.wrap (n:Int)=n:=fun _=>IntWalk.u64_in _ (by omega)
 refine eW Tryz.call80 Tryz.func80 ?_;repeat' first|simp only[go_sem,seval,hw trivial]|refine cP h1 ?_|refine sB ?_|(first|apply pX|apply bX)<;>intro hc|refine⟨oD,?_⟩|exact oD|fail
def mV (n:Nat):PV:=E n
abbrev vU (m o g y:Bytes) (pts:List Nat):List PV:=[.pt (.agg [.sl (pts.map bO)]) 0, .pt (.agg [.fn (.func 80)]) 0, .pt (.agg [.s m, .s o, .s g, .s y]) 0]
theorem yG (m o g y:Bytes) {pts:List Nat} (h0:pts≠[]) (hl:pts.length<1000000) (hb: ∀a∈pts,a<18446744073709551616):aB Tryz.prog 33 [.agg [.s m, .s o, .s g, .s y], .sl (pts.map mV)] (.fc 81 [] (vU m o g y pts)):=by
 have hpos:0<pts.length:=List.length_pos_iff.2 h0;have hc:=fun i (hi:i<pts.length)=>tM (hb _ (au 0 hi))
 have hE:=fun i (hi:i<pts.length)=>getD_map mV pts 0 hi
 obtain⟨n,hn⟩: ∃n,n=pts.length:=⟨_,rfl⟩;have lP:pts.length=n:=hn.symm;refine eW Tryz.call33 Tryz.func33 ?_;repeat' first|simp only[go_sem,seval,lP]|refine sB ?_|(first|apply pX|apply bX)<;>intro hc|refine⟨oD,?_⟩|exact oD|fail
 refine ae ?_;have e1:=hE 0 hpos;have c1:=hc 0 hpos;have t1:pts.take 1=[pts.getD 0 0]:=by rw[cv 0 hpos];simp
 simp only[mV]at e1;generalize pts.getD 0 0=x at*;repeat' first|simp only[go_sem,seval,lP,e1]|refine cP c1 ?_|refine sB ?_|(first|apply pX|apply bX)<;>intro hc|refine⟨oD,?_⟩|exact oD|fail
 refine aj (α:=Nat) (fun j=>n-(j+1)) (fun j=>⟨[(2, .p 1000 0 0),(5, .p 1002 0 0),(6, .p 1004 0 0),(9, .v (.sl (pts.map mV))),(10,E' n),(11,E' (j+1))],[(1000,⟨0,[.v (.s m), .v (.s o), .v (.s g), .v (.s y)],false,none⟩),(1002,⟨0,[.v (.fn (.func 80))],false,some 141⟩),(1004,⟨0,[.rs 1017 j 0 (j+1) 1],false,some 27⟩),(1017,⟨j,aA (pts.take (j+1)),true,some 22⟩)],1021⟩) (fun j=>j+1≤n) 0 (fun _=>Nat.le_of_ble_eq_true rfl) (by omega) ?_ ?_
 ·simp only[Nat.zero_add,t1,show aA [x]=[AV.v (N x)]from rfl]
  exact lE
 ·intro j hj R hR;have hlm:(pts.take (j+1)).length=j+1:=by rw[List.length_take];omega
  have g1:=cr hlm;have g2:(aA (pts.take (j+1))).length=j+1:=by rw[aU,hlm]
  by_cases hlt:j+1<n
  ·have hgo:=hR (j+1) (by omega) (by omega)
   have e2:=hE (j+1) (by omega)
   have c2:=hc (j+1) (by omega)
   rw[cv 0 (show j+1<pts.length by omega),iI]at hgo
   simp only[mV]at e2;generalize pts.getD (j+1) 0=z at*;clear hR hE hc e1 c1;repeat' first|simp only[go_sem,seval,lP,e2,g1,g2]|refine cP c2 ?_|refine sB ?_|(first|apply pX|apply bX)<;>intro hc|refine⟨oD,?_⟩|exact oD|fail
   refine hgo _ ?_
   (refine AS.Le.of (by first|decide|omega) ?_ ?_<;>simp[bL,bK,aD,ai,AV.bd,AV.bd.bdL,u8,af,ah,ak])
   all_goals exact fun c hc=>hc.elim (fun h=>de h) (fun h=>by rw[h];rfl)
  ·obtain rfl:j+1=n:=by omega
   have hT:pts.take (j+1)=pts:=List.take_of_length_le (by omega)
   rw[hT]at g1 g2⊢;have g3:=dR pts;have g4:=cZ (l:=pts) lP;clear hR hE hc e1 c1;repeat' first|simp only[go_sem,seval,lP,g1,g2,g3,g4,cH]|refine sB ?_|(first|apply pX|apply bX)<;>intro hc|refine⟨oD,?_⟩|exact oD|fail
   all_goals rfl
def uv (n i:Nat):List Nat:=(List.replicate n 0).set i 1
noncomputable def jd (q:Nat) (pts:List Nat) (x i:Nat):Nat:=Cn q pts (uv pts.length i) x
noncomputable def oF (q:Nat) (pts:List Nat) (x k:Nat):List (Bool×Bytes):=(List.range k).map fun i=>(false,aK (jd q pts x i))
noncomputable def yo (m q:Nat) (pts fF:List Nat) (x:Nat):Nat:=uH m (fF.zip (oF q pts x pts.length))
theorem IL {q:Nat} (h0:0<q) (pts:List Nat) (x i:Nat):jd q pts x i<q:=by
 unfold jd Cn;have:=nA (q:=(q:Int)) (by omega) x (nI (oL q pts (uv pts.length i)))
 omega
theorem tE {m o:Bytes} (lm:m.length≤8) (lo:o.length≤8) (hE:gE m o=0) (ho:o≠[]) (hp:cT (num o)=true) (g y:Bytes) {pts fF:List Nat} (h0:pts≠[]) (hl:fF.length=pts.length) (hd:pts.Nodup) (hb: ∀a∈pts,a≤8∧a<num o) (h256:pts.length≤256) (he: ∀x∈fF,GP m o x) {x:Nat} (hx:x<num o):
  aB Tryz.prog 81 (.sl (fF.map bO)::E x::vU m o g y pts) (N (yo (num m) (num o) pts fF x)):=by
 obtain⟨vm,vo,m1,-,hoq⟩:=fb hE;have hq:=cE lo;have h2:=uj hp;have hg:=fun i (hi:i<pts.length)=>Bp hp hd hb hi
 obtain⟨q,hqq⟩: ∃q,q=num o:=⟨_,rfl⟩;have eo:(PV.s o)=N q:=by rw[hqq,dy vo]
 rw[←hqq]at hp hb hx hq h2 hg⊢;have hpos:0<pts.length:=List.length_pos_iff.2 h0;have huv: ∀i,∀a∈uv pts.length i,a<q:=fun i a ha=>by
  unfold uv at ha;rcases List.mem_or_eq_of_mem_set ha with h|h
  ·have:=(List.mem_replicate.1 h).2;omega
  ·omega
 have hI:=fun i=>zB hq hp (xs:=pts) (ys:=uv pts.length i) (x:=x) (by simp[uv]) h256 (fun a h=>(hb a h).2) (huv i) hx hd hg
 have hlt:=fun i=>IL (q:=q) (by omega) pts x i
 have hF:=fun i=>j8 (a:=aK (jd q pts x i)) (vN (by have:=hlt i;omega))
 have hP:=oU lm lo hE (xs:=fF) (es:=oF q pts x pts.length) he (fun e h=>by
  obtain⟨i,-,rfl⟩:=List.mem_map.1 h;unfold bH;simp[vN (show jd q pts x i<18446744073709551616 by have:=hlt i;omega)]) (by simp[oF,hl]) (by omega)
 have hc1:=tM (n:=1) (by decide)
 have hcx:=tM (n:=x) (by omega)
 have hsn: ∀k,oF q pts x (k+1)=oF q pts x k++[(false,aK (jd q pts x k))]:=fun k=>by
  unfold oF;rw[List.range_succ,List.map_append];rfl
 have hel: ∀k,(oF q pts x k).length=k:=fun k=>by simp[oF]
 have he0:oF q pts x 0=[]:=rfl;unfold yo;obtain⟨n,hn⟩: ∃n,n=pts.length:=⟨_,rfl⟩;have lP:pts.length=n:=hn.symm;simp only[lP]at hI hP⊢;have hI: ∀i,aB Tryz.prog 82 [N q, .sl (pts.map bO), .sl ((uv n i).map bO),N x] (.tup [N (jd q pts x i),E 0]):=fun i=>by unfold jd;rw[lP];exact hI i
 simp only[G,vU]at hP⊢;rw[eo]at hP⊢;generalize oF q pts x=L at*;generalize jd q pts x=la at*;clear hg hlt huv he hd hb hE;have u0:(aA (List.replicate n 0)).length=n:=by rw[aU];simp
 have u1: ∀i,i<n→List.take i (aA (List.replicate n 0))++[AV.v (N 1)]++List.drop (i+1) (aA (List.replicate n 0))=aA (uv n i):=fun i hi=>dF (x:=1) (by simpa using hi)
 have u2:AV.v (N 1)::List.drop 1 (aA (List.replicate n 0))=aA (uv n 0):=u1 0 (by omega)
 have ul: ∀i,(uv n i).length=n:=fun i=>by simp[uv]
 have x1:=fun i=>cr (ul i)
 have x2:=fun i=>dR (uv n i)
 have x3:=fun i=>cZ (ul i)
 have x4: ∀i,(aA (uv n i)).length=n:=fun i=>by rw[aU,ul]
 have r1: ∀k,aQ cu (L (k+1))=aQ cu (L k)++[.v (.b false), .v (N (la k))]:=fun k=>by rw[hsn,bz];rfl
 refine eW Tryz.call81 Tryz.func81 ?_;repeat' first|simp only[go_sem,seval,lP]|refine sB ?_|(first|apply pX|apply bX)<;>intro hc|refine⟨oD,?_⟩|exact oD|fail
 refine aj (α:=Nat) (fun j=>n-j) (fun j=>match j with|0=>⟨[(0, .v (.sl (fF.map bO))),(1, .v (E x)),(2, .v (.pt (.agg [.sl (pts.map bO)]) 0)),(3, .v (.pt (.agg [.fn (.func 80)]) 0)),(4, .v (.pt (.agg [.s m,N q, .s g, .s y]) 0)),(15, .v (.sl (pts.map bO))),(16,E' n),(8, .sn),(17, .v (.i .i64 0))],[],1005⟩|j+1=>⟨[(0, .v (.sl (fF.map bO))),(1, .v (E x)),(2, .v (.pt (.agg [.sl (pts.map bO)]) 0)),(3, .v (.pt (.agg [.fn (.func 80)]) 0)),(4, .v (.pt (.agg [.s m,N q, .s g, .s y]) 0)),(15, .v (.sl (pts.map bO))),(16,E' n),(8, .rs 1036 j 0 (j+1) 2),(17,E' (j+1))],[(1036,⟨j,aQ cu (L (j+1)),true,some 49⟩)],1040⟩) (fun j=>j≤n) 0 (fun j=>by cases j<;>exact Nat.le_of_ble_eq_true rfl) (Nat.zero_le _) ?_ ?_
 ·show AS.Le _ _;exact lE
 ·intro j hj R hR
  cases j with
  |zero=>
   have hgo:=hR 1 (by omega) (by omega)
   simp only[r1,he0,show aQ cu []=[]from rfl,List.nil_append]at hgo
   have f0:=hF 0;have i0:=hI 0;generalize la 0=l0 at*;clear hR hF hI;repeat' first|simp only[go_sem,seval,lP,fw,u0,u2]|refine cP hc1 ?_|refine cP hcx ?_|(refine gD [1010] i0 rfl (by simp[aH,ai,x1,x2,x3,x4,jv]) (by simp[aI,view,ai,x1,x2,x3,x4,cH]) ?_)|refine cP f0 ?_|refine sB ?_|(first|apply pX|apply bX)<;>intro hc|refine⟨oD,?_⟩|exact oD|fail
   refine hgo _ ?_;exact lE
  |succ j=>
   have q1:=a9 iP (L (j+1));have q2:=a5 iP (L (j+1));rw[hel]at q1 q2
   by_cases hlt:j+1<n
   ·have hgo:=hR (j+2) (by omega) (by omega)
    simp only[r1 (j+1)]at hgo;have f0:=hF (j+1);have i0:=hI (j+1);have u3:=u1 (j+1) hlt;have ht: ∀ _:True,((j:Int)+1).toNat=j+1:=fun _=>by omega
    generalize la (j+1)=l0 at*;clear hR hF hI;repeat' first|simp only[go_sem,seval,lP,fw,u0,u3,q1,q2,ht trivial]|refine cP hc1 ?_|refine cP hcx ?_|(refine gD [1045] i0 rfl (by simp[aH,ai,x1,x2,x3,x4,jv]) (by simp[aI,view,ai,x1,x2,x3,x4,cH]) ?_)|refine cP f0 ?_|refine sB ?_|(first|apply pX|apply bX)<;>intro hc|refine⟨oD,?_⟩|exact oD|fail
    refine hgo _ ?_
    (refine AS.Le.of (by first|decide|omega) ?_ ?_<;>simp[bL,bK,aD,ai,AV.bd,AV.bd.bdL,u8,af,ah,ak])
    all_goals exact fun c hc=>by rcases hc with hc|rfl|rfl<;>first|exact cb hc|rfl
   ·obtain rfl:j+1=n:=by omega
    have q3:=ct iP (L (j+1));have q4:=bj iP (L (j+1));rw[hel]at q4;clear hR hF hI;repeat' first|simp only[go_sem,seval,lP,q1,q2]|(refine gD [1036] hP rfl (by simp[aH,ai,q1,q2,q3,q4,ia]) (by simp[aI,view,ai,q1,q2,q3,q4,cj]) ?_)|refine sB ?_|(first|apply pX|apply bX)<;>intro hc|refine⟨oD,?_⟩|exact oD|fail
    all_goals rfl
end Go.Proofs.YtmobkhegihemeaaGreatDoor
