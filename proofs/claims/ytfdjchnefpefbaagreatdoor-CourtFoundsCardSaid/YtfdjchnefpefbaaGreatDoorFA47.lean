/-
  Part of the proof, part FA47. Own work.
-/
import Derived.Test.YtfdjchnefpefbaaGreatDoorFA46
set_option linter.all false
namespace Go.Proofs.YtfdjchnefpefbaaGreatDoor
open Go Go.Dom Go.Num
set_option maxRecDepth 100000
set_option maxHeartbeats 16000000
theorem tZ (l:List Bytes) (hl:l.length<4611686018427387904):aA Tryz.prog 12 [.sl (l.map .s), .sl (l.map .s)] (.b true):=by
 have l1:(l.map PV.s).length=l.length:=aE ..;have e0: ∀n:Int,(n==n)=true:=fun n=>beq_self_eq_true n
 refine eW Tryz.call12 Tryz.func12 ?_;refine eF (aN @l1 @e0) ?_;refine af (α:=Nat) (fun i=>l.length-i) (fun i=>⟨[(0, .v (.sl (l.map .s))),(1, .v (.sl (l.map .s))),(5,E' i)],[],_⟩) (fun i=>i<=l.length) 0 (fun _=>an _) (aH _) ?_ ?_
 ·exact lE
 ·intro i hi R hR
  by_cases hlt:i<l.length
  ·have e1:=eX hlt;have hgo:=hR (i+1) oO oO;generalize l.getD i []=x at*;have e2:(x==x)=true:=beq_self_eq_true x;clear hR;exact u4 (aN @l1 (aN @e1 @e2)) @hgo
  ·obtain rfl:i=l.length:=by omega
   exact lQ @l1
theorem FD (l:List Nat) (hl:l.length<4611686018427387904):aA Tryz.prog 12 [.sl (l.map cY), .sl (l.map cY)] (.b true):=by
 rw[IN];exact tZ (l.map aO) (by rw[aE];exact hl)
def GJ (vs:List Bytes) (sd:Bytes):Bool:=(vs.take 40).all (fun x=>decide (x.length<=140))&&(decide (vs.length<=40)&&decide (sd.length<=100))
theorem JQ (vs:List Bytes) (sd:Bytes) (a:Int) (h:vs.length<4611686018427387904):aA Tryz.prog 7 [T vs sd a] (.b (GJ vs sd)):=by
 have l1:(vs.map PV.s).length=vs.length:=aE ..;unfold GJ T;refine eW Tryz.call7 Tryz.func7 ?_;refine uZ ?_;refine af (α:=Nat) (fun i=>41-i) (fun i=>⟨[(1, .p 1000 0 0),(3,E' i)],[(1000,⟨0,[.v (.sl (vs.map .s)), .v (.s sd), .v (.i .i64 a)],false,none⟩)],_⟩) (fun i=>i<=vs.length/\i<=40/\((vs.take 40).drop i).all (fun x=>decide (x.length<=140))=(vs.take 40).all fun x=>decide (x.length<=140)) 0 (fun _=>an _) ⟨aH _,aH _,rfl⟩ ?_ ?_
 ·exact lE
 ·rintro i ⟨hi,h20,hf⟩ R hR;rw[<-hf]
  by_cases hlt:i<vs.length/\i<40
  ·obtain⟨hl,hl2⟩:=hlt;have e1:=eX hl;have ht:i<(vs.take 40).length:=by rw[bU];omega
   have hgt:(vs.take 40).getD i []=vs.getD i []:=by simp[aR,eA,hl2]
   have hgo:=hR (i+1);rw[<-hf]at hgo;rw[aT [] ht,List.all_cons,hgt]at hgo⊢;generalize vs.getD i []=x at*;clear hf hR hgt ht
   by_cases ha:x.length<=140
   ·have hgo:=hgo ⟨by omega,by omega,by simp[ha]⟩ oO
    exact u4 (aN @l1 @e1) @hgo
   ·have hd:decide (x.length<=140)=false:=by simpa using ha
    rw[hd,dH,dH];clear hgo;exact lQ (aN @l1 @e1)
  ·have hd:(vs.take 40).drop i=[]:=iO (by rw[bU];omega)
   rw[hd,List.all_nil,cf];clear hR hf
   by_cases hl:i<vs.length
   ·have hi2:i=40:=by omega
    subst hi2;have hx:decide (vs.length<=40)=false:=by simp;omega
    rw[hx,dH];exact lQ @l1
   ·have hi2:i=vs.length:=by omega
    subst hi2;have hx:decide (vs.length<=40)=true:=by simp;omega
    rw[hx,cf];repeat' first|simp only[go_sem,seval,l1]|refine sB ?_|apply xX<;>intro hc|refine⟨oD,?_⟩|exact oD|fail
    all_goals (refine congrArg PV.b ?_;rw[decide_eq_decide];omega)
    all_goals simp_all
theorem Ah (vs:List Bytes) (sd:Bytes) (a:Int) (hl:vs.length<4611686018427387904):aA Tryz.prog 13 [T vs sd a,T vs sd a] (.b true):=by
 have l1:(vs.map PV.s).length=vs.length:=aE ..;have e0: ∀n:Int,(n==n)=true:=fun n=>beq_self_eq_true n
 have e3:(sd==sd)=true:=beq_self_eq_true sd;unfold T;refine eW Tryz.call13 Tryz.func13 ?_;refine eF (aN @l1 (aN @e0 @e3)) ?_;refine af (α:=Nat) (fun i=>vs.length-i) (fun i=>⟨[(2, .p 1000 0 0),(3, .p 1001 0 0),(5,E' i)],[(1000,⟨0,[.v (.sl (vs.map .s)), .v (.s sd), .v (.i .i64 a)],false,none⟩),(1001,⟨0,[.v (.sl (vs.map .s)), .v (.s sd), .v (.i .i64 a)],false,none⟩)],_⟩) (fun i=>i<=vs.length) 0 (fun _=>an _) (aH _) ?_ ?_
 ·exact lE
 ·intro i hi R hR
  by_cases hlt:i<vs.length
  ·have e1:=eX hlt;have hgo:=hR (i+1) oO oO;generalize vs.getD i []=x at*;have e2:(x==x)=true:=beq_self_eq_true x;clear hR;exact u4 (aN @l1 (aN @e1 @e2)) @hgo
  ·obtain rfl:i=vs.length:=by omega
   exact lQ @l1
theorem Hq (c:CK) (hl:c.sh.length<4611686018427387904):aA Tryz.prog 11 [c.pv,c.pv] (.b true):=by
 have h:=tZ c.sh hl;have e0: ∀n:Int,(n==n)=true:=fun n=>beq_self_eq_true n
 have e1: ∀x:Bytes,(x==x)=true:=fun x=>beq_self_eq_true x
 obtain⟨name,m,o,g,y,need,sh⟩:=c;simp only[CK.pv]at*;refine eW Tryz.call11 Tryz.func11 ?_;repeat' first|simp only[go_sem,seval,e0,e1,sU]|refine cP h ?_|refine sB ?_|apply xX<;>intro hc|refine⟨oD,?_⟩|exact oD|fail
 all_goals rfl
theorem DK {m:Bytes} (vm:aa m=true) (lm:m.length<=8) (m0:0<num m) (o:Bytes) {a:Nat} (ha:a<18446744073709551616) {e:Nat} (he:e<18446744073709551616):aA Tryz.prog 87 [G m o,N a,N e] (N (a^e%num m)):=by
 have h:=RC (e:=aO e) ha (vN he) (dY lm) m0;rw[aG,eV vm]at h;refine eW Tryz.call87 Tryz.func87 ?_;exact z1 @h
theorem MN {m:Bytes} (lm:m.length<=8) {o:Bytes} (lo:o.length<=8) (base:Bytes) {vs:List Bytes} {sd:Bytes} {a:Int} (hl:vs.length<1000000) (hsd:sd.length<1000000):aA Tryz.prog 39 [G m o, .s base,T vs sd a] (lC m o base vs sd (yw m o base vs sd a)):=by
 have v1:=aM m;have v2:=aM o;have v3:=aM base;have h2:=oS lm lo;have h3:=Jf lm lo base;have h4:=rR vs sd a hl;unfold yw
 cases hm:aa m with
 |false=>
  rw[hm]at v1;simp only[List.all_cons,hm,dH,bZ,iu,if_true,lC];refine eW Tryz.call39 Tryz.func39 ?_;exact z1 @v1
 |true=>
 cases ho:aa o with
 |false=>
  rw[hm]at v1;rw[ho]at v2;simp only[List.all_cons,hm,ho,dH,cf,bZ,iu,if_true,lC];refine eW Tryz.call39 Tryz.func39 ?_;exact z2 @v1 @v2
 |true=>
 cases hb:aa base with
 |false=>
  rw[hm]at v1;rw[ho]at v2;rw[hb]at v3;simp only[List.all_cons,List.all_nil,hm,ho,hb,dH,cf,bZ,iu,if_true,lC];refine eW Tryz.call39 Tryz.func39 ?_;exact z3 @v1 @v2 @v3
 |true=>
 rw[hm]at v1;rw[ho]at v2;rw[hb]at v3
 cases hg:eD vs a with
 |false=>
  rw[hg]at h4;simp only[bZ,pE,if_true,lC];refine eW Tryz.call39 Tryz.func39 ?_;exact z4 @v1 @v2 @v3 @h4
 |true=>
 rw[hg]at h4;simp only[List.all_cons,List.all_nil,hm,ho,hb,db,bR,sN,aX,if_false]
 by_cases h0:gE m o=0
 case neg=>
  rw[if_pos h0];simp only[lC];generalize gE m o=e at*;refine eW Tryz.call39 Tryz.func39 ?_;exact z5 @v1 @v2 @v3 @h4 @h2
 rw[h0]at h2;rw[if_neg (by simpa using h0)]
 cases hb3:(o==[]|| !zd m o base)with
 |true=>
  rw[show(!(o==[])&&zd m o base)=false by rw[<-nW (zd m o base),<-Bool.not_or,hb3];rfl]at h3
  simp only[if_true,lC];refine eW Tryz.call39 Tryz.func39 ?_;exact z6 @v1 @v2 @v3 @h4 @h2 @h3
 |false=>
 rw[show(!(o==[])&&zd m o base)=true by rw[<-nW (zd m o base),<-Bool.not_or,hb3];rfl]at h3
 simp only[aX,if_false];have ho2:o≠[]:=fun h=>by subst h;simp at hb3
 have hs:zd m o base=true:=by
  cases h:zd m o base with
  |true=>rfl
  |false=>rw[h]at hb3;simp at hb3
 obtain⟨vm,vo,m1,-,hoq⟩:=kp h0;obtain⟨q1,-⟩:=hoq ho2;have hqW:=dY lo;have hmW:=dY lm;have hW:=jV;unfold zd at hs;rw[aY]at hs;have hin:=hs.1;unfold lj at hin;rw[aY]at hin;obtain⟨vb,gp⟩:=(cL h0).1 hin.2;obtain⟨hv,a0,a1⟩:=rz hg;obtain⟨i,rfl⟩: ∃i:Nat,a=i:=⟨a.toNat,by omega⟩
 rw[Int.toNat_natCast];have s1:=Hn (x:=num o) (y:=1) (by have:=cE vo;rw[fF vo];omega) oC oO
 rw[eV vo,show N 1= .s [1]from congrArg PV.s (by decide:aO 1=[1])]at s1
 have hbn:aO (num o-1)≠[]:=fun h=>by have:=fW.1 h;omega
 have dB:=Hl (vs:=vs) (sd:=sd) (i:=i) (n:=aO (num o-1)) hv (vN oO) hbn oO hl hsd
 cases hd:fA vs sd i (aO (num o-1))with
 |error e=>
  rw[hd]at dB;have he:=xh hd;simp only[ic,lC]at dB⊢;clear hd;refine eW Tryz.call39 Tryz.func39 ?_;exact z8 @v1 @v2 @v3 @h4 @h2 @h3 @s1 @dB
 |ok c=>
  rw[hd]at dB;obtain⟨vc,c2,c3⟩:=fK hv (vN oO) hl oO hd;rw[aG]at c2;simp only[ic]at dB;have s2:=FB (x:=num c) (y:=1) (by have:=cE vc;rw[fF vc];omega) oC
  rw[eV vc,show N 1= .s [1]from congrArg PV.s (by decide:aO 1=[1])]at s2
  have hbW:=gp.lt;have s3:=DK vm lm oO o (a:=num base) oO (e:=num c+1) oO;rw[eV vb]at s3;simp only;generalize num base^(num c+1)%num m=y at*;have e1:=Mh y;clear hd
  by_cases hy:y=1
  ·rw[if_pos hy];rw[decide_eq_true hy]at e1;simp only[lC];refine eW Tryz.call39 Tryz.func39 ?_;exact Xn @e1 @v1 @v2 @v3 @h4 @h2 @h3 @s1 @dB @s2 @s3
  ·rw[if_neg hy];rw[decide_eq_false hy]at e1;simp only[lC];refine eW Tryz.call39 Tryz.func39 ?_;exact Xn @e1 @v1 @v2 @v3 @h4 @h2 @h3 @s1 @dB @s2 @s3
theorem Je {q:Nat} (hq:q<18446744073709551616):aA Tryz.prog 89 [N q] (E (if du q then 0 else 12)):=by
 have h:=UD (aO q) (by have:=lN hq;omega)
 rw[vN hq,decide_eq_true (lN hq),aG,if_pos rfl,if_pos (lN hq)]at h;simp only[db,cf]at h
 cases hp:du q with
 |true=>
  rw[hp]at h;simp only[if_true];refine eW Tryz.call89 Tryz.func89 ?_;exact z1 @h
 |false=>
  rw[hp]at h;simp only[aX,if_false];refine eW Tryz.call89 Tryz.func89 ?_;exact z1 @h
theorem DJ {q:Nat} (hq:q<18446744073709551616) (q0:0<q) {sec:Nat} (hs:sec<q) {need count:Int} (hc:count<=8\/count>255) {vs:List Bytes} {sd:Bytes} {i:Nat} (hv:vs.all aa=true) (hi:i<=2147483647) (hl:vs.length<1000000) (hsd:sd.length<1000000):
  aA Tryz.prog 40 [N q,N sec,E need,E count,T vs sd i] (FP vs sd (uf q sec need count vs sd i)):=by
 have hW:=jV;have bq:aa (aO q)=true:=vN hq;have bs:aa (aO sec)=true:=vN (show sec<18446744073709551616 by omega)
 have c1:=MA (l:=[aO q,aO sec]) (by intro x hx;rcases bL.1 hx with rfl|hx;exact bq;rw[dr.1 hx];exact bs) (by simp)
 have c2:=rR vs sd (i:Int) hl;rw[oG hv hi]at c2;have c3:=Je hq;have c4:=Mz (q:=aO q) bq (l:=[aO sec]) (by intro x hx;rw[dr.1 hx];exact⟨bs,by simp[aG,hs]⟩) (by simp)
 simp only[aS,bH]at c1 c4;unfold uf
 by_cases hp:du q=true
 case neg=>
  have hp:du q=false:=by simpa using hp
  rw[hp]at c3⊢;simp only[aX,if_false,bZ,if_true,FP]at c3⊢;refine eW Tryz.call40 Tryz.func40 ?_;exact z3 @c1 @c2 @c3
 rw[hp]at c3⊢;simp only[if_true,bR,aX,if_false]at c3⊢
 by_cases hb:need<1\/need>count\/count>255\/(q:Int)<=count
 ·rw[if_pos hb];simp only[FP]
  by_cases hin:need<1\/need>count\/count>255
  ·by_cases b1:need<1
   ·refine eW Tryz.call40 Tryz.func40 ?_;exact z4 @c1 @c2 @c3 @c4
   ·by_cases b2:need>count
    ·refine eW Tryz.call40 Tryz.func40 ?_;exact z4 @c1 @c2 @c3 @c4
    ·have b3:count>255:=by omega
     refine eW Tryz.call40 Tryz.func40 ?_;exact z4 @c1 @c2 @c3 @c4
  ·obtain⟨c,rfl⟩: ∃c:Nat,count=c:=⟨count.toNat,by omega⟩
   have hw: ∀ _:True,IntKind.u64.wrap (c:Int)=c:=fun _=>IntWalk.u64_in _ oO
   have o1:=jE c oO;have o2:=MF (a:=c) (b:=q) oO oO;have o3: ∀ _:True,decide (aU c q>=0)=true:=fun _=>by rw[tq];exact decide_eq_true oO
   generalize aU c q=cm at*;refine eW Tryz.call40 Tryz.func40 ?_;exact Zd (aN (hw trivial) (o3 trivial)) @c1 @c2 @c3 @c4 @o1 @o2
 rw[if_neg hb];obtain⟨c,rfl⟩: ∃c:Nat,count=c:=⟨count.toNat,by omega⟩
 obtain⟨d,rfl⟩: ∃d:Nat,need=(d+1:Nat):=⟨(need-1).toNat,by omega⟩
 have hd1:(((d+1:Nat):Int)-1).toNat=d:=by omega
 rw[hd1,Int.toNat_natCast];have hw: ∀ _:True,IntKind.u64.wrap (c:Int)=c:=fun _=>IntWalk.u64_in _ oO
 have o1:=jE c oO;have o2:=MF (a:=c) (b:=q) oO oO;have o3: ∀ _:True,decide (aU c q>=0)=false:=fun _=>by rw[tq];exact decide_eq_false oO
 generalize aU c q=cm at*;have hq0:aO q≠[]:=fun g=>by have:=aG q;rw[g]at this;simp[num]at this;omega
 have hd:=fun(j:Nat) (hj:j<=2147483647)=>Hl (sd:=sd) (i:=j) hv bq hq0 hj hl hsd
 obtain⟨R0,hR0⟩: ∃R,R=gX vs sd (aO q) d i []:=⟨_,rfl⟩;rw[<-hR0];have cpos:0<c:=by omega
 have hof:=fun k (hk:k<300)=>jE k oO
 refine eW Tryz.call40 Tryz.func40 ?_;refine Xr (aN (hw trivial) (o3 trivial)) @c1 @c2 @c3 @c4 @o1 @o2 ?_;refine af (α:=Nat×List Bytes) (fun s=>d-s.1) (fun s=>match s.1 with|0=>⟨[(0, .v (N q)),(2,E' (d+1)),(3,E' c),(9, .p 1000 0 0),(11, .p 1002 0 0),(14, .fs [N sec])],[(1000,⟨0,[.v (.sl (vs.map .s)), .v (.s sd), .v (.i .i64 ((i+0:Nat):Int))],false,none⟩),(1002,⟨0,[.sn, .v (.s []), .v (.i .i64 0)],false,some 29⟩)],1046⟩|j+1=>⟨[(0, .v (N q)),(2,E' (d+1)),(3,E' c),(9, .p 1000 0 0),(11, .p 1002 0 0),(14, .rs 1068 j 0 (j+2) 1)],[(1000,⟨0,[.v (.sl (vs.map .s)), .v (.s sd), .v (.i .i64 ((i+(j+1):Nat):Int))],false,none⟩),(1002,⟨0,[.sn, .v (.s []), .v (.i .i64 0)],false,some 29⟩),(1068,⟨j,bO PV.s (aO sec::s.2),true,some 22⟩)],1070⟩) (fun s=>s.1<=d/\s.2.length=s.1/\i+s.1<=2147483647/\(∀x∈s.2,aa x=true/\num x<q)/\R0=gX vs sd (aO q) (d-s.1) (i+s.1) s.2) (0,[]) (fun s=>by rcases s with⟨_| _,_⟩<;>exact cC rfl) ⟨aH _,rfl,hi,(fun _ h=>nomatch h),hR0⟩ ?_ ?_
 ·show AS.Le _ _;exact lE
 ·rintro⟨j,acc⟩ ⟨hj,hal,hij,hac,hRj⟩ Q hQ;simp only at hj hal hij hac hRj;have dj:=hd (i+j) hij
  by_cases hlt:j<d
  ·rw[show d-j=(d-(j+1))+1 by omega,gX]at hRj
   cases hy:fA vs sd (i+j) (aO q)with
   |error e=>
    rw[hy]at dj hRj;simp only at hRj;rw[hRj];have he:=rp hy;simp only[ic,FP]at dj⊢;clear hRj hQ hd hy hR0 hof
    cases j with
    |zero=>
     exact z1 @dj
    |succ j=>
     exact z1 @dj
   |ok y=>
    rw[hy]at dj hRj;simp only at hRj;obtain⟨w1,w2,w3⟩:=fK hv bq hl hij hy;rw[aG]at w2;have hgo:=hQ (j+1,acc++[y]) ⟨by show j+1<=d;omega,by simp[hal],by show i+(j+1)<= _;omega,fun x hx=>by
     rcases fJ.1 hx with hx|hx
     ·exact hac x hx
     ·rw[dr.1 hx];exact⟨w1,w2⟩,by show R0=gX vs sd (aO q) (d-(j+1)) (i+(j+1)) (acc++[y]);rw[hRj];rfl⟩ (by show d-(j+1)<d-j;omega)
    simp only[<-List.cons_append,dh]at hgo;simp only[ic]at dj;clear hRj hQ hd hy hR0 hof hac
    cases j with
    |zero=>
     have ha0:acc=[]:=gJ.1 hal;subst ha0;have z1:bO PV.s ([aO sec]++[y])=[.v (.s (aO sec)), .v (.s y)]:=rfl;rw[<-dh,z1]at hgo;exact zg1 @hgo @dj
    |succ j=>
     have q1:=de dV.s (aO sec::acc);have q2:=dK dV.s (aO sec::acc);rw[List.length_cons,hal,dG]at q1 q2;refine o8 (aN @q1 @q2) @dj ?_;refine hgo _ ?_;refine lG ?_;all_goals exact⟨by omega,rfl,fun c hc=>by
      rcases hc with hc|⟨a,ha,rfl⟩
      ·exact eu hc
      ·simp[PV.cells]at ha;subst ha;rfl⟩
  ·obtain rfl:j=d:=by omega
   rw[eE,gX]at hRj;rw[hRj];simp only[FP];have hsh: ∀k,pW q sec acc (k+1)=pW q sec acc k++[(pT q (nI (sec::acc.map num)) ((k+1:Nat):Int)).toNat]:=An q sec acc;have hs0:pW q sec acc 0=[]:=rfl;have hsl:=yA q sec acc;have hLq: ∀x∈sec::acc.map num,x<18446744073709551616:=fun x hx=>by
    rcases bL.1 hx with rfl|hx
    ·omega
    ·obtain⟨y,hy,rfl⟩:=bw.1 hx;have:=(hac y hy).2;omega
   have hval:=fun k (hk:k<300)=>MB hq q0 (cs:=sec::acc.map num) hLq (x:=k) oO (by simp;omega)
   have hm:(aO sec::acc).map PV.s=(sec::acc.map num).map cY:=by
    have:=E9 (l:=aO sec::acc) fun x hx=>by
     rcases bL.1 hx with rfl|hx
     ·exact bs
     ·exact(hac x hx).1
    rw[show(aO sec::acc).map num=sec::acc.map num by rw[aS,aG]]at this
    exact this
   generalize hS:pW q sec acc=S at*;have k1:=cv (hsl c);have k2:=eR (S c);have k3:=dy (hsl c);have k4:(aC (S c)).length=c:=by rw[bE,hsl]
   clear hRj hQ hd hR0 hac hS
   cases j with
   |zero=>
    have ha0:acc=[]:=gJ.1 hal;refine uZ ?_;refine af (α:=Nat) (fun k=>c-k) (fun k=>match k with|0=>⟨[(14, .v (.sl ((sec::acc.map num).map cY))),(0, .v (N q)),(3,E' c),(9, .p 1000 0 0),(11, .p 1002 0 0),(18, .sn),(19, .v (.i .i64 1))],[(1000,⟨0,[.v (.sl (vs.map .s)), .v (.s sd), .v (.i .i64 ((i+0:Nat):Int))],false,none⟩),(1002,⟨0,[.sn, .v (.s []), .v (.i .i64 0)],false,some 29⟩)],1052⟩|k+1=>⟨[(14, .v (.sl ((sec::acc.map num).map cY))),(0, .v (N q)),(3,E' c),(9, .p 1000 0 0),(11, .p 1002 0 0),(18, .rs 1063 k 0 (k+1) 1),(19,E' (k+2))],[(1000,⟨0,[.v (.sl (vs.map .s)), .v (.s sd), .v (.i .i64 ((i+0:Nat):Int))],false,none⟩),(1002,⟨0,[.sn, .v (.s []), .v (.i .i64 0)],false,some 29⟩),(1063,⟨k,aC (S (k+1)),true,some 22⟩)],1068⟩) (fun k=>k<=c) 0 (fun k=>by cases k<;>exact cC rfl) (aH _) ?_ ?_
    ·refine(AS.Le.TN [(14, .sl ((sec::acc.map num).map cY))] [] (fun _ h=>by cases h) (by intro p hp;rw[dr.1 hp];simp[aK,view,aL,ha0,cY]) (by first|decide|omega) ?_ ?_)<;>simp[dM,dL,aK,aj,AV.bd,AV.bd.bdL]
    ·intro k hk R hR
     cases k with
     |zero=>
      have hgo:=hR 1 oO oO;simp only[hsh,hs0,List.nil_append,show∀y,aC [y]=[AV.v (N y)]from fun _=>rfl]at hgo
      have o4:=hof 1 oO;have v1:=hval 1 oO;rw[show((0+1:Nat):Int)=((1:Nat):Int)from rfl]at hgo
      generalize (pT q (nI (sec::acc.map num)) ((1:Nat):Int)).toNat=y at*;clear hR hval hof hsh;exact XC @hgo @o4 @v1
     |succ k=>
      have g1:=cv (hsl (k+1));have g2:(aC (S (k+1))).length=k+1:=by rw[bE,hsl]
      by_cases hlt:k+1<c
      ·have hgo:=hR (k+2) oO oO;simp only[hsh (k+1),gv]at hgo;have o4:=hof (k+2) oO;have v1:=hval (k+2) oO;have hw2: ∀ _:True,IntKind.u64.wrap ((k+2:Nat):Int)=((k+2:Nat):Int):=fun _=>IntWalk.u64_in _ oO
       have hw3: ∀ _:True,IntKind.i64.wrap (((k+2:Nat):Int)+1)=((k+3:Nat):Int):=fun _=>by rw[IntWalk.i64_in _ oO];omega
       rw[show((k+1+1:Nat):Int)=((k+2:Nat):Int)from rfl]at hgo
       generalize (pT q (nI (sec::acc.map num)) ((k+2:Nat):Int)).toNat=y at*;clear hR hval hof hsh;refine sT (aN (hw2 trivial) (aN (hw3 trivial) (aN @g1 @g2))) @o4 @v1 ?_;refine hgo _ ?_
       (refine AS.Le.of (by first|decide|omega) ?_ ?_<;>simp[dM,dL,aK,aj,AV.bd,AV.bd.bdL,u8,ai,ak,ar])
       all_goals first|(show _= _;omega)|exact fun c hc=>hc.elim (fun h=>eN h) (fun h=>by rw[h];rfl)
      ·obtain rfl:k+1=c:=by omega
       clear hR hval hof hsh;repeat' first|simp only[go_sem,seval,k1,k2,k3,k4,cQ]|refine sB ?_|apply xX<;>intro hc|refine⟨oD,?_⟩|exact oD|fail
       all_goals rfl
   |succ j=>
    have q1:=de dV.s (aO sec::acc);have q2:=dK dV.s (aO sec::acc);have q3:=fk dV.s (aO sec::acc);have q4:chunk 1 (j+2) ((aO sec::acc).flatMap fun x=>(PV.s x).cells)=(aO sec::acc).map .s:=by
     have:=dA dV.s (aO sec::acc);rw[List.length_cons,hal]at this;exact this
    rw[List.length_cons,hal,dG]at q1 q2;generalize hB:aO sec::acc=B at*;refine uZ ?_;refine af (α:=Nat) (fun k=>c-k) (fun k=>match k with|0=>⟨[(14, .v (.sl ((sec::acc.map num).map cY))),(0, .v (N q)),(3,E' c),(9, .p 1000 0 0),(11, .p 1002 0 0),(18, .sn),(19, .v (.i .i64 1))],[(1000,⟨0,[.v (.sl (vs.map .s)), .v (.s sd), .v (.i .i64 ((i+(j+1):Nat):Int))],false,none⟩),(1002,⟨0,[.sn, .v (.s []), .v (.i .i64 0)],false,some 29⟩)],1076⟩|k+1=>⟨[(14, .v (.sl ((sec::acc.map num).map cY))),(0, .v (N q)),(3,E' c),(9, .p 1000 0 0),(11, .p 1002 0 0),(18, .rs 1087 k 0 (k+1) 1),(19,E' (k+2))],[(1000,⟨0,[.v (.sl (vs.map .s)), .v (.s sd), .v (.i .i64 ((i+(j+1):Nat):Int))],false,none⟩),(1002,⟨0,[.sn, .v (.s []), .v (.i .i64 0)],false,some 29⟩),(1087,⟨k,aC (S (k+1)),true,some 22⟩)],1092⟩) (fun k=>k<=c) 0 (fun k=>by cases k<;>exact cC rfl) (aH _) ?_ ?_
    ·refine(AS.Le.TN [(14, .sl ((sec::acc.map num).map cY))] [1068] (fun m hm=>by rw[dr.1 hm];exact⟨by decide,rfl⟩) (by intro p hp;rw[dr.1 hp];simp[aK,aj,view,aL,q1,q2,q3,q4,e9,qF,hm]) (by first|decide|omega) ?_ ?_)<;>simp[dM,dL,aK,aj,AV.bd,AV.bd.bdL]
    ·intro k hk R hR
     cases k with
     |zero=>
      have hgo:=hR 1 oO oO;simp only[hsh,hs0,List.nil_append,show∀y,aC [y]=[AV.v (N y)]from fun _=>rfl]at hgo
      have o4:=hof 1 oO;have v1:=hval 1 oO;rw[show((0+1:Nat):Int)=((1:Nat):Int)from rfl]at hgo
      generalize (pT q (nI (sec::acc.map num)) ((1:Nat):Int)).toNat=y at*;clear hR hval hof hsh;exact XC @hgo @o4 @v1
     |succ k=>
      have g1:=cv (hsl (k+1));have g2:(aC (S (k+1))).length=k+1:=by rw[bE,hsl]
      by_cases hlt:k+1<c
      ·have hgo:=hR (k+2) oO oO;simp only[hsh (k+1),gv]at hgo;have o4:=hof (k+2) oO;have v1:=hval (k+2) oO;have hw2: ∀ _:True,IntKind.u64.wrap ((k+2:Nat):Int)=((k+2:Nat):Int):=fun _=>IntWalk.u64_in _ oO
       have hw3: ∀ _:True,IntKind.i64.wrap (((k+2:Nat):Int)+1)=((k+3:Nat):Int):=fun _=>by rw[IntWalk.i64_in _ oO];omega
       rw[show((k+1+1:Nat):Int)=((k+2:Nat):Int)from rfl]at hgo
       generalize (pT q (nI (sec::acc.map num)) ((k+2:Nat):Int)).toNat=y at*;clear hR hval hof hsh;refine sT (aN (hw2 trivial) (aN (hw3 trivial) (aN @g1 @g2))) @o4 @v1 ?_;refine hgo _ ?_
       (refine AS.Le.of (by first|decide|omega) ?_ ?_<;>simp[dM,dL,aK,aj,AV.bd,AV.bd.bdL,u8,ai,ak,ar])
       all_goals first|(show _= _;omega)|exact fun c hc=>hc.elim (fun h=>eN h) (fun h=>by rw[h];rfl)
      ·obtain rfl:k+1=c:=by omega
       clear hR hval hof hsh;repeat' first|simp only[go_sem,seval,k1,k2,k3,k4,cQ]|refine sB ?_|apply xX<;>intro hc|refine⟨oD,?_⟩|exact oD|fail
       all_goals rfl
theorem DL {name m o:Bytes} (ln:name.length<=60) (lm:m.length<=8) (lo:o.length<=8) (base:Bytes) (need:Int) {count:Int} (hc:count<=8\/count>255) {vs:List Bytes} {sd:Bytes} {a:Int} (hl:vs.length<1000000) (hsd:sd.length<1000000):
  aA Tryz.prog 10 [.s name,G m o, .s base,E need,E count,T vs sd a] (nF name m o base need vs sd (y8 name m o base need count vs sd a)):=by
 have v1:=aM m;have v2:=aM o;have v3:=aM base;have h2:=rR vs sd a hl;have h3:=Fv name ln;have h4:=MN lm lo base (vs:=vs) (sd:=sd) (a:=a) hl hsd;unfold y8
 cases hm:aa m with
 |false=>
  rw[hm]at v1;simp only[List.all_cons,hm,dH,bZ,iu,if_true,nF];refine eW Tryz.call10 Tryz.func10 ?_;exact z1 @v1
 |true=>
 cases ho:aa o with
 |false=>
  rw[hm]at v1;rw[ho]at v2;simp only[List.all_cons,hm,ho,dH,cf,bZ,iu,if_true,nF];refine eW Tryz.call10 Tryz.func10 ?_;exact z2 @v1 @v2
 |true=>
 cases hb:aa base with
 |false=>
  rw[hm]at v1;rw[ho]at v2;rw[hb]at v3;simp only[List.all_cons,List.all_nil,hm,ho,hb,dH,cf,bZ,iu,if_true,nF];refine eW Tryz.call10 Tryz.func10 ?_;exact z3 @v1 @v2 @v3
 |true=>
 rw[hm]at v1;rw[ho]at v2;rw[hb]at v3;simp only[List.all_cons,List.all_nil,hm,ho,hb,db,bR,ka]
 cases hg:eD vs a with
 |false=>
  rw[hg]at h2;simp only[bZ,if_true,nF];refine eW Tryz.call10 Tryz.func10 ?_;exact z4 @v1 @v2 @v3 @h2
 |true=>
 rw[hg]at h2;simp only[bR,aX,if_false]
 cases hn:ku name with
 |false=>
  rw[hn]at h3;simp only[bZ,if_true,nF];refine eW Tryz.call10 Tryz.func10 ?_;exact z5 @v1 @v2 @v3 @h2 @h3
 |true=>
 rw[hn]at h3;simp only[bR,aX,if_false]
 cases hs:yw m o base vs sd a with
 |error e=>
  rw[hs]at h4;have he:=yx hs;simp only[nF,lC]at h4⊢;clear hs;refine eW Tryz.call10 Tryz.func10 ?_;exact z6 @v1 @v2 @v3 @h2 @h3 @h4
 |ok R=>
 obtain⟨y,x,i⟩:=R;rw[hs]at h4;obtain⟨vb,hE,ho',gp,-,hv,x0,xq,hy,-,hi⟩:=HB lo hl hs;obtain⟨vm,vo,m1,-,hoq⟩:=kp hE;have hqW:=dY lo;simp only[lC]at h4⊢;have h5:=DJ hqW oO xq (need:=need) hc hv hi hl hsd;rw[eV vo]at h5
 cases hp:uf (num o) x need count vs sd i with
 |error e=>
  rw[hp]at h5;have he:=yC hp;simp only[nF,FP]at h5⊢;clear hs hp;refine eW Tryz.call10 Tryz.func10 ?_;exact z7 @v1 @v2 @v3 @h2 @h3 @h4 @h5
 |ok R=>
 obtain⟨ls,j⟩:=R;rw[hp]at h5;obtain⟨n1,n2,n3,n4,n5,l,-,hls,-⟩:=yD hp;have hlq: ∀s∈ls,s<num o:=by rw[hls];exact HF oO l _
 obtain⟨n,hn0⟩: ∃n,n=ls.length:=⟨_,rfl⟩;have lP:ls.length=n:=hn0.symm;have hpos:0<n:=by omega
 simp only[nF,FP]at h5⊢;obtain⟨S,hS⟩: ∃S,S=oP (num m) (num base) ls:=⟨_,rfl⟩;have hSl:S.length=n:=by rw[hS,oP,aE,lP]
 have hSg: ∀k,k<n->S.getD k 0=num base^(ls.getD k 0)%num m:=fun k hk=>by
  rw[hS,oP,aR,dt,bJ oO,aR,bJ oO];rfl
 have hEx: ∀s:Nat,s<num o-> ∀sh:List Nat,aA Tryz.prog 41 [.agg [.s name, .s m, .s o, .s base,N y,E need, .sl (sh.map cY)], .s base,N s] (N (num base^s%num m)):=fun s hsq sh=>by
  have h:=DM (FC name m o base need y sh) lm lo hE gp (vN (n:=s) oO);simp only[Q0,eV vb,aG,cR,aX,if_false]at h;exact h
 rw[<-hS];have k1:=cv hSl;have k2:=eR S;have k3:=dy hSl;have k4:(aC S).length=n:=by rw[bE,hSl]
 clear hs hp hls hS;refine eW Tryz.call10 Tryz.func10 ?_;refine UZ @lP @v1 @v2 @v3 @h2 @h3 @h4 @h5 ?_;refine af (α:=Nat) (fun j=>n-j) (fun k=>match k with|0=>⟨[(2, .v (.s base)),(11, .p 1001 0 0),(12, .p 1002 0 0),(14, .p 1004 0 0),(19, .v (.sl (ls.map cY))),(20, .p 1065 0 0),(21, .v (.i .i64 0))],[(1001,⟨0,[.v (.sl (vs.map .s)), .v (.s sd), .v (.i .i64 (j:Nat))],false,none⟩),(1002,⟨0,[.v (.s []), .v (.s []), .v (.s []), .v (.s []), .v (.s []), .v (E 0), .sn],false,some 36⟩),(1004,⟨0,[.sn, .v (.s []), .v (.i .i64 0)],false,some 29⟩),(1065,⟨0,[.v (.s name), .v (.s m), .v (.s o), .v (.s base), .v (N y), .v (E need), .sn],false,some 36⟩)],1068⟩|k+1=>⟨[(2, .v (.s base)),(11, .p 1001 0 0),(12, .p 1002 0 0),(14, .p 1004 0 0),(19, .v (.sl (ls.map cY))),(20, .p 1065 0 0),(21,E' (k+1))],[(1001,⟨0,[.v (.sl (vs.map .s)), .v (.s sd), .v (.i .i64 (j:Nat))],false,none⟩),(1002,⟨0,[.v (.s []), .v (.s []), .v (.s []), .v (.s []), .v (.s []), .v (E 0), .sn],false,some 36⟩),(1004,⟨0,[.sn, .v (.s []), .v (.i .i64 0)],false,some 29⟩),(1065,⟨0,[.v (.s name), .v (.s m), .v (.s o), .v (.s base), .v (N y), .v (E need), .rs 1082 k 0 (k+1) 1],false,some 36⟩),(1082,⟨k,aC (S.take (k+1)),true,some 22⟩)],1088⟩) (fun k=>k<=n) 0 (fun k=>by cases k<;>exact cC rfl) (aH _) ?_ ?_
 ·show AS.Le _ _;exact lE
 ·intro k hk R hR
  cases k with
  |zero=>
   have hgo:=hR 1 oO oO;simp only[fa 0 (show 0<S.length by omega),List.take_zero,List.nil_append,hSg 0 hpos]at hgo
   have e1:=qv ls (i:=0) oO;have hsq:=hlq _ (az 0 (show 0<ls.length by omega))
   generalize ls.getD 0 0=s0 at*;have hx:=hEx s0 hsq [];generalize num base^s0%num m=v at*;simp only[show aC [v]=[AV.v (N v)]from rfl]at hgo
   clear hR hEx hSg hlq h2 h3 h4 h5;repeat' first|simp only[go_sem,seval,lP,e1,aL]|(refine o9 hx (by simp[aQ,view,aj,AV.one,PV.one]) rfl ?_)|refine sB ?_|apply xX<;>intro hc|refine⟨oD,?_⟩|exact oD|fail
   refine hgo _ ?_;exact lE
  |succ k=>
   have hlm:(S.take (k+1)).length=k+1:=by rw[bU];omega
   have g1:=cv hlm;have g2:(aC (S.take (k+1))).length=k+1:=by rw[bE,hlm]
   have g3:=eR (S.take (k+1));have g4:=dy hlm;rw[pP]at g4
   by_cases hlt:k+1<n
   ·have hgo:=hR (k+2) oO oO;simp only[fa 0 (show k+1<S.length by omega),gv,hSg (k+1) hlt]at hgo
    have e1:=qv ls (i:=k+1) oO;have hsq:=hlq _ (az 0 (show k+1<ls.length by omega))
    generalize ls.getD (k+1) 0=s0 at*;have hx:=hEx s0 hsq (S.take (k+1));generalize num base^s0%num m=v at*;clear hR hEx hSg hlq h2 h3 h4 h5;repeat' first|simp only[go_sem,seval,lP,e1,g1,g2,aL,kG]|(refine o9 hx (by simp[aQ,view,aj,AV.one,PV.one,g1,g2,g3,g4,cQ,pP]) rfl ?_)|refine sB ?_|apply xX<;>intro hc|refine⟨oD,?_⟩|exact oD|fail
    refine hgo _ ?_;refine lG ?_;all_goals exact fun c hc=>hc.elim (fun h=>eN h) (fun h=>by rw[h];rfl)
   ·obtain rfl:k+1=n:=by omega
    simp only[cd (show S.length<=k+1 by omega)]at g1 g2⊢
    clear hR hEx hSg hlq h2 h3 h4 h5;repeat' first|simp only[go_sem,seval,lP,k1,k2,k3,k4,cQ]|refine sB ?_|apply xX<;>intro hc|refine⟨oD,?_⟩|exact oD|fail
    all_goals rfl
theorem Lk {name m o base:Bytes} {need count:Int} {vs:List Bytes} {sd:Bytes} {a:Int} {y:Nat} {ls:List Nat} {j:Nat} (h:y8 name m o base need count vs sd a= .ok (y,ls,j)):ls.length<=255:=by
 unfold y8 at h
 split at h
 ·cases h
 split at h
 ·cases h
 split at h
 ·cases h
 ·rename_i hs
  split at h
  ·cases h
  ·rename_i hp;simp only[sA,cO]at h;obtain⟨-,rfl,-⟩:=h;obtain⟨-,-,n3,-,n5,-⟩:=yD hp;omega
theorem OS (name m o base:Bytes) (need count:Int) (vs:List Bytes) (sd:Bytes) (a:Int) (hvs:vs.length<4611686018427387904):aA Tryz.prog 3 [Xu name m o base need count,T vs sd a] (.b true):=by
 have hf:=Lb name m o base need count;have ht:=JQ vs sd a hvs;have ha:=EJ
 cases hfb:nD name m o base count with
 |false=>
  rw[hfb]at hf;refine eW Tryz.call3 Tryz.func3 ?_;exact z2 @hf @ha
 |true=>
 rw[hfb]at hf
 cases htb:GJ vs sd with
 |false=>
  rw[htb]at ht;refine eW Tryz.call3 Tryz.func3 ?_;exact z3 @hf @ht @ha
 |true=>
 rw[htb]at ht;obtain⟨ln,lm,lo,-,lc⟩:=of_decide_eq_true hfb;have hb:vs.length<=40/\sd.length<=100:=by
  unfold GJ at htb;simp only[aY,decide_eq_true_eq]at htb;exact htb.2
 have fo:=De (name:=name) (m:=m) (o:=o) ln lm lo base need (count:=count) lc (vs:=vs) (sd:=sd) (a:=a) oO oO;have fr:=DL (name:=name) (m:=m) (o:=o) ln lm lo base need (count:=count) lc (vs:=vs) (sd:=sd) (a:=a) oO oO
 cases hr:y8 name m o base need count vs sd a with
 |error e=>
  have he:=Lj hr;have s1:=Hq ⟨[],[],[],[],[],0,[]⟩ (by simp)
  have s2:=tZ [] (by simp)
  have s3:=Ah [] [] 0 (by simp)
  simp only[CK.pv,bH]at s1 s2;rw[hr]at fo fr;simp only[nF]at fo fr;clear hr;refine eW Tryz.call3 Tryz.func3 ?_;repeat' first|simp only[go_sem,seval,beq_self_eq_true]|refine cP hf ?_|refine cP ht ?_|refine cP ha ?_|refine cP fo ?_|refine cP fr ?_|refine cP s1 ?_|refine cP s2 ?_|refine cP s3 ?_|refine sB ?_|apply xX<;>intro hc|refine⟨oD,?_⟩|exact oD|fail
  all_goals rfl
 |ok R=>
 obtain⟨y,ls,j⟩:=R;have hcn:=Lk hr;rw[hr]at fo fr;simp only[nF]at fo fr;have hP:=yc (num m) (num base) ls;have s1:=Hq (FC name m o base need y (oP (num m) (num base) ls)) (by show((oP (num m) (num base) ls).map aO).length< _;rw[aE,hP];omega)
 rw[Q0]at s1;have s2:=FD ls oO;have s3:=Ah vs sd (j:Int) oO;generalize oP (num m) (num base) ls=S at*;clear hr;refine eW Tryz.call3 Tryz.func3 ?_;repeat' first|simp only[go_sem,seval,beq_self_eq_true]|refine cP hf ?_|refine cP ht ?_|refine cP ha ?_|refine cP fo ?_|refine cP fr ?_|refine cP s1 ?_|refine cP s2 ?_|refine cP s3 ?_|refine sB ?_|apply xX<;>intro hc|refine⟨oD,?_⟩|exact oD|fail
 all_goals rfl
end Go.Proofs.YtfdjchnefpefbaaGreatDoor
namespace Go.Proofs.YtfdjchnefpefbaaGreatDoor
open Go Go.Dom Go.ChangeShapes Go.WideShapes Go.ChangeAt Go.RowKit
set_option maxRecDepth 100000
theorem y9 (os:Os) (started:os.Started) (H:Type) (enc:TypeId×Value->H):
  ReturnsInHanded {} Tryz.checked os 3 .any (fun w args=>(Rows.courtFoundsSpec.pre enc Tryz.prog Tryz.f3 [] false w args/\laidMetH Tryz.prog uC w)/\sizedMet enc Tryz.prog Tryz.f3 (OpenSpec.ofChange Rows.courtFoundsSpec) false w args)
   (Rows.courtFoundsSpec.post enc Tryz.prog Tryz.f3 false true false false):=by
 refine returnsInHanded_of_change_and (C:=Tryz.checked) (X:=fun w _=>laidMetH Tryz.prog uC w) (fun _ _ _ hh h=>h.of_heap hh) YZ started (by kernel_rfl) Tryz.func3
  (ChangeSpec.witness_shaped (enc:=enc) (C:=Tryz.checked) (os:=os) (X:=fun w _=>laidMetH Tryz.prog uC w) false (World.laidAll Tryz.prog os uC) #[.agg #[.string ⟨#[]⟩, .string ⟨#[]⟩, .string ⟨#[]⟩, .string ⟨#[]⟩, .int .i64 0, .int .i64 0], .agg #[.slice none 0 0, .string ⟨#[]⟩, .int .i64 0]] 8 (World.laidAll_os _ _ _)
   (World.shaped_of_ZipB (by kernel_rfl) (by kernel_rfl)) (by kernel_rfl) (by kernel_rfl) (by kernel_rfl)
   (by rw[MakeChecks.laidMetH_plain _ _ _ (by kernel_rfl)];exact laidMet_laidAll _ (by kernel_rfl) (by kernel_rfl))) ?_
 intro W base args ds gs before hval0 hW hcnd hwt hL _;rw[MakeChecks.laidMetH_plain _ _ _ (by kernel_rfl)]at hL
 have hval: ∀(j:Nat) t v,Tryz.f3.params[j]?=some t->args[j]?=some v->Value.okWide Tryz.prog W .any base t v:=hval0;have hW':=hW;obtain⟨p,q,hA0,hV,rfl,hfz,hnd⟩:=hW;have hA:DataW.TrodAll enc Tryz.prog W 0 (fun _=>true) true Tryz.f3.params.toList args.toList ds p:=hA0
 have hlt: ∀x∈p++q,x.block<W.heap.size:=fun x hx=>hW'.lt x hx
 rw[Tryz.params3]at hA hval;obtain⟨v0,v1,d0,d1,p0,p1,rfl,rfl,rfl,h0,h1⟩:=trodAll_two hA;obtain⟨rfl,rfl⟩:=trodVars_none hV;have hall:=bz.1 hwt;have rb:=reachBytes_lt;have hv0:=hval 0 26 v0 rfl rfl;unfold Value.okWide at hv0;rw[Tryz.underlying26]at hv0;simp only at hv0;obtain⟨c0,rfl,s0,-⟩:=hv0;have w0: ∀m∈d0.weights Tryz.prog 26,m<=reachBytes:=fun m hm=>of_decide_eq_true (hall m (DataW.weights_mem_each (j:=0) rfl rfl m hm))
 obtain⟨n0,t0⟩:=id h0;obtain⟨RA,r0,o0,y0⟩:=HG 9 n0 _ c0.toList d0 p0 YX t0 w0;obtain⟨name,m,o,ba,need,count,ea⟩:=W8 y0;have q0:PR (Hs W) (Xu name m o ba need count) (.agg c0):=by
  rw[<-ea];have:=PR.agg (rd:=Hs W) RA c0.toList o0 r0.1 r0.2;simpa using this
 have hv1:=hval 1 29 v1 rfl rfl;unfold Value.okWide at hv1;rw[Tryz.underlying29]at hv1;simp only at hv1;obtain⟨c1,rfl,s1,-⟩:=hv1;have w1: ∀m∈d1.weights Tryz.prog 29,m<=reachBytes:=fun m hm=>of_decide_eq_true (hall m (DataW.weights_mem_each (j:=1) rfl rfl m hm))
 obtain⟨n1,t1⟩:=id h1;obtain⟨Ad,r1,o1,y1⟩:=HG 9 n1 _ c1.toList d1 p1 YY t1 w1;obtain⟨vs,sd,at1,ea1,hvs⟩:=Xb y1;have q1:PR (Hs W) (T vs sd at1) (.agg c1):=by
  rw[<-ea1];have:=PR.agg (rd:=Hs W) Ad c1.toList o1 r1.1 r1.2;simpa using this
 obtain⟨g,hg,hc⟩:=OS name m o ba need count vs sd at1 (by omega)
 have hg3:g=3:=by
  have a1:=hg #[] W;have a2:=Tryz.call3 #[] W;rw[a1]at a2;injection a2 with a2 _
  injection a2
 subst hg3;refine(hc W (Hs W) [.agg c0, .agg c1] (Jv hL) (fun _ _ _ h=>h) (.cons q0 (.cons q1 .nil))).mono ?_
 rintro e W' ⟨v,rfl,hb,hpr⟩;cases hpr;refine⟨_,rfl,I7 (pa:=p0++p1) (pv:=[]) hW' (fun _ _ _=>trodAll_mk1 (shut_bool RQ true)) (fun sp hsp=>trodAll_mk2 (WideElems.Trod_stays Rs (by kernel_rfl) (of_decide_eq_true (by kernel_rfl)) h0 (fun x hx=>hb.same (hlt x (by simp[hx]))) (fun x hx=>hsp x (by simp[hx]))) (WideElems.Trod_stays Rs (by kernel_rfl) (of_decide_eq_true (by kernel_rfl)) h1 (fun x hx=>hb.same (hlt x (by simp[hx]))) (fun x hx=>hsp x (by simp[hx])))) (fun _ _=>rfl) (by simp) hb (ok_one (by kernel_rfl) rfl (okWide_bool_mk RQ true))⟩
end Go.Proofs.YtfdjchnefpefbaaGreatDoor
