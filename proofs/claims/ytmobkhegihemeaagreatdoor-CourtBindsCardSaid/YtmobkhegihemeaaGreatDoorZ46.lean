/-
  Part of the proof, part Z46. Own work.
-/
import Derived.Test.YtmobkhegihemeaaGreatDoorZ45
import Derived.Test.YtmobkhegihemeaaGreatDoorZ42
set_option linter.all false
namespace Go.Proofs.YtmobkhegihemeaaGreatDoor
open Go Go.Dom Go.Num
set_option maxRecDepth 100000
set_option maxHeartbeats 16000000
theorem PZ (b:Bytes):aA Tryz.prog 175 [bV b] (.s (if b=[]then([]:Bytes)else b)):=by
 have h:=IX b;split
 ·rename_i g;subst g;exact h
 ·exact h
theorem P1 (m:Bytes) {o:Bytes} (h:o≠[]):aA Tryz.prog 176 [.sl [G m o], .fn (.func 177)] (E 0):=by
 have hb:(o !=([]:Bytes))=true:=by simpa using h
 have hb2:(o==([]:Bytes))=false:=by simpa using h
 have h:aA Tryz.prog 177 [G m o] (.b true):=by
  refine eW Tryz.call177 Tryz.func177 ?_;repeat' first|simp only[go_sem,seval,hb,hb2]|refine sB ?_|(first|apply pX|apply bX)<;>intro hc|refine⟨oD,?_⟩|exact oD|fail
  all_goals rfl
 refine eW Tryz.call176 Tryz.func176 ?_;repeat' first|simp only[go_sem,seval]|refine sB ?_|(first|apply pX|apply bX)<;>intro hc|refine⟨oD,?_⟩|exact oD|fail
 refine ae ?_;repeat' first|simp only[go_sem,seval]|refine cP h ?_|refine sB ?_|(first|apply pX|apply bX)<;>intro hc|refine⟨oD,?_⟩|exact oD|fail
theorem Qg (b o:Bytes):aA Tryz.prog 178 [bV b, .pt (.agg [.s o]) 0] (.s (if b=[]then o else b)):=by
 unfold bV
 by_cases h:b=[]
 ·subst h;refine eW Tryz.call178 Tryz.func178 ?_;repeat' first|simp only[go_sem,seval,nn]|refine sB ?_|(first|apply pX|apply bX)<;>intro hc|refine⟨oD,?_⟩|exact oD|fail
  all_goals rfl
 ·have hb:(b==([]:Bytes))=false:=by simpa using h
  rw[if_neg h];refine eW Tryz.call178 Tryz.func178 ?_;repeat' first|simp only[go_sem,seval,hb]|refine sB ?_|(first|apply pX|apply bX)<;>intro hc|refine⟨oD,?_⟩|exact oD|fail
noncomputable def sy (s:bT) (w:List Int) (vs:List Bytes) (a:Int):Int:=if !dc vs a then 3 else if w.length≠s.vars.length then 6 else if !vn (aW s.groups) s.vars w then 2 else if !Dd s w then 18 else 0
theorem Fz {c sl:Bytes} {s:bT} (hs:yo s) {m o:Bytes} (hg1:s.groups=[(m,o)]) {w:List Int} (hw6:w.length<1000000) (hw: ∀x∈w,x.natAbs<bR) (hW:vn (aW s.groups) s.vars w=true→WS s w) {vs:List Bytes} (sd:Bytes) {a:Int} (hl:vs.length<1000000):aA Tryz.prog 115 [X0 c sl s, .sl (w.map Zp), .sl [],T vs sd a] (E (sy s w vs a)):=by
 have v1:=du (w.map ik) _ _ (by rw[List.length_map];omega) IK
 rw[iN,pC hw,QJ]at v1;have v2:=je [] 174 [.pt (.agg [.fn (.func 170)]) 0] (fun _=>true) (by decide) (fun x hx=>by cases hx)
 rw[show(([]:List (List (Bool×Bytes))).any fun _=>true)=false from rfl]at v2
 have v3:=Bf sd (a:=a) hl;have nv:=hs.nv;have hb:=hs.v;have hh:=fun h=>Cz hs (w:=w) h hw hW
 have hoV:=dh hs.g;have hnb: ∀b∈s.vars,aW s.groups=[]→b≠[]:=fun b h1 h2 h3=>uk hs (h3▸h1) h2
 obtain⟨gs,us,es⟩:=s;simp only at hg1 nv hb hh hoV hnb;subst hg1;have l2:(us.map bV).length=us.length:=List.length_map ..;have l5:(w.map Zp).length=w.length:=List.length_map ..;have ho:aW [(m,o)]=o:=by
  by_cases h:o=[]
  ·subst h;rfl
  ·simp[aW,h]
 rw[ho]at hh hoV hnb;unfold sy;simp only[ho,X0,bT.pv,List.map_cons,List.map_nil,dY]at hh v2⊢;clear hs hW
 cases hg:dc vs a with
 |false=>
  rw[hg]at v3;simp only[Bool.not_false,Bool.not_true,if_true];refine eW Tryz.call115 Tryz.func115 ?_;repeat' first|simp only[go_sem,seval,aH]|refine cP v1 ?_|refine cV v2 ?_|refine cP v3 ?_|refine cP l8 ?_|refine sB ?_|(first|apply pX|apply bX)<;>intro hc|refine⟨oD,?_⟩|exact oD|fail
  all_goals rfl
 |true=>
  rw[hg]at v3;simp only[Bool.not_true,Bool.false_eq_true,if_false]
  by_cases hwl:w.length=us.length
  ·rw[if_neg (by simpa using hwl)]
   have hh:=hh hwl;have hI: ∀ _:True,((w.length:Int) !=us.length)=false:=fun _=>by rw[hwl];simp
   by_cases ho0:o=[]
   ·have v4:=Ke m;subst ho0;refine eW Tryz.call115 Tryz.func115 ?_;repeat' first|simp only[go_sem,seval,aH,l2,l5,hI trivial]|refine cP v1 ?_|refine cV v2 ?_|refine cP v3 ?_|refine cP l8 ?_|refine cP v4 ?_|refine sB ?_|(first|apply pX|apply bX)<;>intro hc|refine⟨oD,?_⟩|exact oD|fail
    refine ai (α:=Nat) (fun i=>us.length-i) (fun i=>⟨[(1, .v (.sl (w.map Zp))),(2, .v (.sl [])),(4, .p 1000 0 0),(13, .v (.fn (.func 175))),(76, .v (.sl (us.map bV))),(77,E' us.length),(78,E' i)],[(1000,⟨0,[.v (.s c), .v (.s sl), .v (.sl [G m []]), .v (.sl (us.map bV)), .v (.sl (es.map cM.pv)), .v (.sl []), .v (.sl []), .v (.s [])],false,none⟩)],_⟩) (fun i=>i≤us.length∧ ∀j,j<i→fx (us.getD j []) (w.getD j 0) (da [] (us.getD j []))=true) 0 (fun _=>Nat.le_refl _) ⟨Nat.zero_le _,fun j hj=>by omega⟩ ?_ ?_
    ·exact lE
    ·rintro i ⟨hi,hlts⟩ R hR;clear v1 v2 v3
     by_cases hlt:i<us.length
     ·have e1:=getD_map bV us [] hlt;have e2:=getD_map Zp w 0 (i:=i) (by omega)
      have kb:=hb _ (ax [] hlt);have kw:=hw _ (ax 0 (show i<w.length by omega))
      have hv0:=hnb _ (ax [] hlt);have hgo:=fun h=>hR (i+1) ⟨by omega,h⟩ (by omega)
      have hbad:=fun h: ¬fx (us.getD i []) (w.getD i 0) (da [] (us.getD i []))=true=>kn (p:=fun i=>fx (us.getD i []) (w.getD i 0) (da [] (us.getD i []))) hlt (Bool.eq_false_iff.2 h)
      have hnx:fx (us.getD i []) (w.getD i 0) (da [] (us.getD i []))=true→ ∀j,j<i+1→fx (us.getD j []) (w.getD j 0) (da [] (us.getD j []))=true:=fun h j hj=>by
       by_cases hji:j<i
       ·exact hlts j hji
       ·obtain rfl:j=i:=by omega
        exact h
      rw[←vn]at hbad;clear hR hlts hh;generalize us.getD i []=b at*;generalize w.getD i 0=x at*;have hz:=nX kw;simp only[ik,bM,Bool.and_eq_true]at hz;have hc:=mc hz.1 (show aa (if b=[]then[]else b)=true by split;exact hoV.1;exact kb.1)
      have hbl:num (if b=[]then[]else b)=da [] b:=by unfold da;split<;>rfl
      rw[uc,hbl]at hc;have h3:=PZ b;have hd:decide (aO x.natAbs (da [] b)≥0)= !decide (x.natAbs<da [] b):=LH _ _;have hzs:zs x=decide (x<0):=rfl;simp only[bV]at e1 h3;simp only[Zp,cH,ik]at e2;unfold fx at hbad hnx;clear hbl kb kw hz;generalize aO x.natAbs (da [] b)=cm at*;generalize decide (x.natAbs<da [] b)=p at*;generalize decide (x<0)=q at*;generalize (if b=[]then[]else b)=y at*
      have hbb:(b==[])=decide (b=[]):=by rw[Bool.eq_iff_iff,beq_iff_eq,decide_eq_true_eq]
      generalize decide (b=[])=b0 at*;cases p
      ·rw[hbad (by simp)]
       simp only[Bool.not_false,if_true];repeat' first|simp only[go_sem,seval,aH,l2,l5,e1,e2,hbb,hd,hzs]|refine cP h3 ?_|refine cV h3 ?_|refine cP hc ?_|refine sB ?_|(first|apply pX|apply bX)<;>intro hc|refine⟨oD,?_⟩|exact oD|fail
       all_goals rfl
      ·cases b0
       ·have hgo:=hgo (hnx (by simp))
        repeat' first|simp only[go_sem,seval,aH,l2,l5,e1,e2,hbb,hd,hzs]|refine cP h3 ?_|refine cV h3 ?_|refine cP hc ?_|refine sB ?_|(first|apply pX|apply bX)<;>intro hc|refine⟨oD,?_⟩|exact oD|fail
        refine hgo _ ?_;exact lE
       ·cases q
        ·have hgo:=hgo (hnx (by simp))
         repeat' first|simp only[go_sem,seval,aH,l2,l5,e1,e2,hbb,hd,hzs]|refine cP h3 ?_|refine cV h3 ?_|refine cP hc ?_|refine sB ?_|(first|apply pX|apply bX)<;>intro hc|refine⟨oD,?_⟩|exact oD|fail
         refine hgo _ ?_;exact lE
        ·rw[hbad (by simp)]
         simp only[Bool.not_false,if_true];repeat' first|simp only[go_sem,seval,aH,l2,l5,e1,e2,hbb,hd,hzs]|refine cP h3 ?_|refine cV h3 ?_|refine cP hc ?_|refine sB ?_|(first|apply pX|apply bX)<;>intro hc|refine⟨oD,?_⟩|exact oD|fail
         all_goals rfl
     ·obtain rfl:i=us.length:=by omega
      have hg:vn [] us w=true:=jY fun j hj=>hlts j hj
      rw[hg,Bool.true_and]at hh;rw[hg];simp only[Bool.not_true,Bool.false_eq_true,if_false];clear hR hlts hb;generalize Dd ⟨[(m,[])],us,es⟩ w=b at*;cases b
      ·repeat' first|simp only[go_sem,seval]|refine cP hh ?_|refine cP pT ?_|(refine ae ?_)|refine sB ?_|(first|apply pX|apply bX)<;>intro hc|refine⟨oD,?_⟩|exact oD|fail
       all_goals rfl
      ·repeat' first|simp only[go_sem,seval]|refine cP hh ?_|refine cP pT ?_|(refine ae ?_)|refine sB ?_|(first|apply pX|apply bX)<;>intro hc|refine⟨oD,?_⟩|exact oD|fail
       all_goals rfl
   ·have v4:=P1 m ho0;refine eW Tryz.call115 Tryz.func115 ?_;repeat' first|simp only[go_sem,seval,aH,l2,l5,hI trivial]|refine cP v1 ?_|refine cV v2 ?_|refine cP v3 ?_|refine cP l8 ?_|refine cP v4 ?_|refine sB ?_|(first|apply pX|apply bX)<;>intro hc|refine⟨oD,?_⟩|exact oD|fail
    refine ai (α:=Nat) (fun i=>us.length-i) (fun i=>⟨[(1, .v (.sl (w.map Zp))),(2, .v (.sl [])),(4, .p 1000 0 0),(13, .fn (.func 178) [] [.p 1057 0 0]),(76, .v (.sl (us.map bV))),(77,E' us.length),(78,E' i)],[(1000,⟨0,[.v (.s c), .v (.s sl), .v (.sl [G m o]), .v (.sl (us.map bV)), .v (.sl (es.map cM.pv)), .v (.sl []), .v (.sl []), .v (.s [])],false,none⟩),(1057,⟨0,[.v (.s o)],false,some 22⟩)],_⟩) (fun i=>i≤us.length∧ ∀j,j<i→fx (us.getD j []) (w.getD j 0) (da o (us.getD j []))=true) 0 (fun _=>Nat.le_refl _) ⟨Nat.zero_le _,fun j hj=>by omega⟩ ?_ ?_
    ·exact lE
    ·rintro i ⟨hi,hlts⟩ R hR;clear v1 v2 v3
     by_cases hlt:i<us.length
     ·have e1:=getD_map bV us [] hlt;have e2:=getD_map Zp w 0 (i:=i) (by omega)
      have kb:=hb _ (ax [] hlt);have kw:=hw _ (ax 0 (show i<w.length by omega))
      have hv0:=hnb _ (ax [] hlt);have hgo:=fun h=>hR (i+1) ⟨by omega,h⟩ (by omega)
      have hbad:=fun h: ¬fx (us.getD i []) (w.getD i 0) (da o (us.getD i []))=true=>kn (p:=fun i=>fx (us.getD i []) (w.getD i 0) (da o (us.getD i []))) hlt (Bool.eq_false_iff.2 h)
      have hnx:fx (us.getD i []) (w.getD i 0) (da o (us.getD i []))=true→ ∀j,j<i+1→fx (us.getD j []) (w.getD j 0) (da o (us.getD j []))=true:=fun h j hj=>by
       by_cases hji:j<i
       ·exact hlts j hji
       ·obtain rfl:j=i:=by omega
        exact h
      rw[←vn]at hbad;clear hR hlts hh;generalize us.getD i []=b at*;generalize w.getD i 0=x at*;have hz:=nX kw;simp only[ik,bM,Bool.and_eq_true]at hz;have hc:=mc hz.1 (show aa (if b=[]then o else b)=true by split;exact hoV.1;exact kb.1)
      have hbl:num (if b=[]then o else b)=da o b:=by unfold da;split<;>rfl
      rw[uc,hbl]at hc;have h3:=Qg b o;have hd:decide (aO x.natAbs (da o b)≥0)= !decide (x.natAbs<da o b):=LH _ _;have hzs:zs x=decide (x<0):=rfl;simp only[bV]at e1 h3;simp only[Zp,cH,ik]at e2;unfold fx at hbad hnx;clear hbl kb kw hz;generalize aO x.natAbs (da o b)=cm at*;generalize decide (x.natAbs<da o b)=p at*;generalize decide (x<0)=q at*;generalize (if b=[]then o else b)=y at*
      have hbb:(b==[])=decide (b=[]):=by rw[Bool.eq_iff_iff,beq_iff_eq,decide_eq_true_eq]
      generalize decide (b=[])=b0 at*;cases p
      ·rw[hbad (by simp)]
       simp only[Bool.not_false,if_true];repeat' first|simp only[go_sem,seval,aH,l2,l5,e1,e2,hbb,hd,hzs]|refine cP h3 ?_|refine cV h3 ?_|refine cP hc ?_|refine sB ?_|(first|apply pX|apply bX)<;>intro hc|refine⟨oD,?_⟩|exact oD|fail
       all_goals rfl
      ·cases b0
       ·have hgo:=hgo (hnx (by simp))
        repeat' first|simp only[go_sem,seval,aH,l2,l5,e1,e2,hbb,hd,hzs]|refine cP h3 ?_|refine cV h3 ?_|refine cP hc ?_|refine sB ?_|(first|apply pX|apply bX)<;>intro hc|refine⟨oD,?_⟩|exact oD|fail
        refine hgo _ ?_;exact lE
       ·cases q
        ·have hgo:=hgo (hnx (by simp))
         repeat' first|simp only[go_sem,seval,aH,l2,l5,e1,e2,hbb,hd,hzs]|refine cP h3 ?_|refine cV h3 ?_|refine cP hc ?_|refine sB ?_|(first|apply pX|apply bX)<;>intro hc|refine⟨oD,?_⟩|exact oD|fail
         refine hgo _ ?_;exact lE
        ·rw[hbad (by simp)]
         simp only[Bool.not_false,if_true];repeat' first|simp only[go_sem,seval,aH,l2,l5,e1,e2,hbb,hd,hzs]|refine cP h3 ?_|refine cV h3 ?_|refine cP hc ?_|refine sB ?_|(first|apply pX|apply bX)<;>intro hc|refine⟨oD,?_⟩|exact oD|fail
         all_goals rfl
     ·obtain rfl:i=us.length:=by omega
      have hg:vn o us w=true:=jY fun j hj=>hlts j hj
      rw[hg,Bool.true_and]at hh;rw[hg];simp only[Bool.not_true,Bool.false_eq_true,if_false];clear hR hlts hb;generalize Dd ⟨[(m,o)],us,es⟩ w=b at*;cases b
      ·repeat' first|simp only[go_sem,seval]|refine cP hh ?_|refine cP pT ?_|(refine ae ?_)|refine sB ?_|(first|apply pX|apply bX)<;>intro hc|refine⟨oD,?_⟩|exact oD|fail
       all_goals rfl
      ·repeat' first|simp only[go_sem,seval]|refine cP hh ?_|refine cP pT ?_|(refine ae ?_)|refine sB ?_|(first|apply pX|apply bX)<;>intro hc|refine⟨oD,?_⟩|exact oD|fail
       all_goals rfl
  ·rw[if_pos hwl];have e6:((w.length:Int) !=us.length)=true:=by rw[bne_iff_ne];omega
   refine eW Tryz.call115 Tryz.func115 ?_;repeat' first|simp only[go_sem,seval,aH,l2,l5,e6]|refine cP v1 ?_|refine cV v2 ?_|refine cP v3 ?_|refine cP l8 ?_|refine sB ?_|(first|apply pX|apply bX)<;>intro hc|refine⟨oD,?_⟩|exact oD|fail
   all_goals rfl
noncomputable def uR (c sl ctx:Bytes) (s:bT) (w:List Int) (vs:List Bytes) (sd:Bytes):Nat→Nat→Except Int (Bytes×List Int×Nat)
 |0,_=> .error 15
 |k+1,i=>match iV (aW s.groups) c sl vs sd s.vars i []with
  | .error e=> .error e
  | .ok ms=>
   if zA (aW s.groups) c sl s.vars (dG (aW s.groups) s.vars ms w (gJ (Bh ctx s (qd s ms)) c))then .ok (aI (gJ (Bh ctx s (qd s ms)) c),dG (aW s.groups) s.vars ms w (gJ (Bh ctx s (qd s ms)) c),i+s.vars.length)else uR c sl ctx s w vs sd k (i+s.vars.length)
noncomputable def vJ (c sl ctx:Bytes) (s:bT) (w:List Int) (vs:List Bytes) (sd:Bytes) (a:Int):Except Int (Bytes×List Int×Nat):=
 if sy s w vs a≠0 then .error (sy s w vs a)else uR c sl ctx s w vs sd 64 a.toNat
theorem Jt {s:bT} {w:List Int} {vs:List Bytes} {a:Int} (h:sy s w vs a=0):dc vs a=true∧w.length=s.vars.length∧vn (aW s.groups) s.vars w=true∧Dd s w=true:=by
 unfold sy at h
 split at h
 ·cases h
 ·rename_i h1
  split at h
  ·cases h
  ·rename_i h2
   split at h
   ·cases h
   ·rename_i h3
    split at h
    ·cases h
    ·rename_i h4;exact⟨by simpa using h1,by simpa using h2,by simpa using h3,by simpa using h4⟩
theorem Nt {s:bT} (hs:yo s) (w:List Int): ∀x∈qd s w,x.length≤8∧aa x=true:=by
 intro x hx;obtain⟨q,hq,rfl⟩:=List.mem_map.1 hx;obtain⟨q1,q2,-⟩:=hs.q q hq;have hg:=hs.g _ (ax ey (show q.iu.toNat<s.groups.length by omega))
 have hm:=(fY hg.1).2.2.1;have hlt:LI s.groups w q<256^8:=by
  unfold LI yE;exact Nat.lt_trans (Nat.mod_lt _ (by omega)) (cv hg.2.1)
 exact⟨ju.2 hlt,vN hlt⟩
theorem Ek {c sl:Bytes} {s:bT} (hp:Bj c sl s) (hbd:OA s) (h00:s.eqs≠[]) {m o:Bytes} (hg1:s.groups=[(m,o)]) {ctx:Bytes} (hx:ctx.length≤100000) {w:List Int} (hw6:w.length<1000000) (hw: ∀x∈w,x.natAbs<bR) (hW:vn (aW s.groups) s.vars w=true→WS s w) {vs:List Bytes} {sd:Bytes} {a:Int} (hl:vs.length<1000000) (hsd:sd.length<1000000):
  aA Tryz.prog 64 [.agg [.s c, .s sl], .s ctx,s.pv, .sl (w.map Zp),C0, .sl [],T vs sd a] (P8 vs sd (vJ c sl ctx s w vs sd a)):=by
 have hr:=hp.r;have hs:=hp.g;have hn:=oG hp;have hwt:=Fz (c:=c) (sl:=sl) hs hg1 hw6 hw hW sd (a:=a) hl;unfold vJ
 by_cases he:sy s w vs a=0
 ·rw[if_neg (by simpa using he)]
  rw[he]at hwt;obtain⟨f2,f3,f4,-⟩:=Jt he;obtain⟨g1,g2,g3⟩:=rT f2;obtain⟨i0,rfl⟩: ∃i:Nat,a=i:=⟨a.toNat,by omega⟩
  rw[Int.toNat_natCast];have hCo:=fun(i:Nat) (hi:i≤2147483647)=>Cc hp (vs:=vs) (sd:=sd) (i:=i) g1 hi hl hsd
  have hRe:=fun(ms:List Int) (ch:Nat) (hml:ms.length=s.vars.length) (hch:ch<num c)=>y4 hp f3 hml hch f4
  have hMf:=fun(i:Nat) (hi:i≤2147483647) (ms:List Int)=>qw hp (sd:=sd) (i:=i) g1 hi hl (ms:=ms)
  have hCh:=fun(fs:List Bytes)=>qi hr hbd hx (fs:=fs)
  have hB:=fun(i:Nat) (hi:i≤2147483647)=>Kf (vs:=vs) (a:=i) sd (rk g1 hi) hl
  have hmI:=Nt hs;have hii: ∀ms:List Int,qd s ms≠[]∧(qd s ms).length≤900:=fun ms=>by
   have:=uo s ms;have ne:=hs.ne;exact⟨fun h=>h00 (List.length_eq_zero_iff.1 (by rw[←this,h];rfl)),by omega⟩
  obtain⟨R0,hR0⟩: ∃R0,R0=uR c sl ctx s w vs sd 64 i0:=⟨_,rfl⟩;rw[←hR0];obtain⟨gs,us,es⟩:=s;simp only[X0,bT.pv]at hn hwt hCo hRe hCh hMf hg1⊢;subst hg1;obtain⟨oq,hoq⟩: ∃oq,oq=aW [(m,o)]:=⟨_,rfl⟩;simp only[List.map_cons,List.map_nil,dY,←hoq]at hn hwt hCo hRe hCh hMf f4⊢;refine eW Tryz.call64 Tryz.func64 ?_;repeat' first|simp only[go_sem,seval]|refine cP hn ?_|refine cP hwt ?_|refine sB ?_|(first|apply pX|apply bX)<;>intro hc|refine⟨oD,?_⟩|exact oD|fail
  refine ai (α:=Nat×Nat) (fun p=>64-p.1) (fun p=>⟨[(1, .v (.s ctx)),(3, .v (.sl (w.map Zp))),(5, .v (.sl [])),(7, .p 1000 0 0),(9, .p 1001 0 0),(11, .p 1002 0 0),(13, .p 1003 0 0),(14, .p 1004 0 0),(15, .p 1005 0 0),(17, .p 1014 0 0),(50,E' p.1)],[(1000,⟨0,[.v (.s c), .v (.s sl)],false,none⟩),(1001,⟨0,[.v (.sl [G m o]), .v (.sl (us.map bV)), .v (.sl (es.map cM.pv))],false,none⟩),(1002,⟨0,[.v (.sl []), .v (.sl [])],false,none⟩),(1003,⟨0,[.v (.sl (vs.map .s)), .v (.s sd), .v (.i .i64 ((p.2:Nat):Int))],false,none⟩),(1004,⟨0,[.v (.s []), .sn, .sn, .sn],false,some 66⟩),(1005,⟨0,[.sn, .v (.s []), .v (.i .i64 0)],false,some 40⟩),(1014,⟨0,[.v (.s c), .v (.s sl), .v (.sl [G m o]), .v (.sl (us.map bV)), .v (.sl (es.map cM.pv)), .v (.sl []), .v (.sl []), .v (.s [])],false,some 164⟩)],1028⟩) (fun p=>p.1≤64∧p.2≤2147483647∧R0=uR c sl ctx ⟨[(m,o)],us,es⟩ w vs sd (64-p.1) p.2) (0,i0) (fun _=>Nat.le_of_ble_eq_true rfl) ⟨Nat.zero_le _,by omega,hR0⟩ ?_ ?_
  ·exact lE
  ·clear hn hwt hR0 he f2;rintro⟨k,i⟩ ⟨hk,hi,hR0⟩ R hR;simp only at hk hi hR0
   by_cases hlt:k<64
   ·obtain⟨q,hq⟩: ∃q,64-k=q+1:=⟨63-k,by omega⟩
    rw[hq,uR]at hR0;simp only[←hoq]at hR0;have hCo:=hCo i hi
    cases hM:iV oq c sl vs sd us i []with
    |error e=>
     simp only[hM]at hR0 hCo;subst hR0;have he:(e !=0)=true:=by rcases yt hM with rfl|rfl<;>rfl
     simp only[Hm]at hCo;clear hR;repeat' first|simp only[go_sem,seval,he]|refine cP hCo ?_|refine sB ?_|(first|apply pX|apply bX)<;>intro hc|refine⟨oD,?_⟩|exact oD|fail
     all_goals rfl
    |ok ms=>
     simp only[hM]at hR0 hCo;simp only[Hm]at hCo;obtain⟨m1,m2,m3,m4⟩:=hMf i hi ms hM;have hii:=hii ms;have hCh:=hCh (qd ⟨[(m,o)],us,es⟩ ms) hii.1 hii.2 (fun x hx=>by have:=(hmI _ x hx).1;omega)
     have hlc:=tc (Bh ctx ⟨[(m,o)],us,es⟩ (qd ⟨[(m,o)],us,es⟩ ms)) hr.c2;have hRe:=hRe ms _ m1 hlc m2;generalize gJ (Bh ctx ⟨[(m,o)],us,es⟩ (qd ⟨[(m,o)],us,es⟩ ms)) c=z at*;have hB:=hB (i+us.length) m3;generalize qd ⟨[(m,o)],us,es⟩ ms=L at*;unfold zI at hRe
     by_cases hin:zA oq c sl us (dG oq us ms w z)=true
     ·rw[if_pos hin]at hR0 hRe;subst hR0;generalize dG oq us ms w z=rs at*;clear hR hMf m2 m4 hmI hM f4;repeat' first|simp only[go_sem,seval]|refine cP hCo ?_|refine cP hB ?_|refine cP hCh ?_|refine cP hRe ?_|refine sB ?_|(first|apply pX|apply bX)<;>intro hc|refine⟨oD,?_⟩|exact oD|fail
      all_goals rfl
     ·rw[if_neg hin]at hR0 hRe;have hgo:=hR (k+1,i+us.length) ⟨by omega,m3,by rw[show 64-(k+1)=q by omega];exact hR0⟩ (by simp only;omega)
      clear hR hMf m2 m4 hmI hM f4;repeat' first|simp only[go_sem,seval]|refine cP hCo ?_|refine cP hB ?_|refine cP hCh ?_|refine cP hRe ?_|refine sB ?_|(first|apply pX|apply bX)<;>intro hc|refine⟨oD,?_⟩|exact oD|fail
      refine hgo _ ?_;exact lE
   ·obtain rfl:k=64:=by omega
    simp only[Nat.sub_self,uR]at hR0;subst hR0;clear hR hRe hCh hCo hMf hB;repeat' first|simp only[go_sem,seval]|refine sB ?_|(first|apply pX|apply bX)<;>intro hc|refine⟨oD,?_⟩|exact oD|fail
    all_goals rfl
 ·rw[if_pos he];have hb:(sy s w vs a==0)=false:=by simpa using he
  have hb2:(sy s w vs a !=0)=true:=by simpa using he
  generalize sy s w vs a=e at*;obtain⟨gs,us,es⟩:=s;simp only[X0,bT.pv]at hn hwt⊢;refine eW Tryz.call64 Tryz.func64 ?_;repeat' first|simp only[go_sem,seval,hb,hb2]|refine cP hn ?_|refine cP hwt ?_|refine sB ?_|(first|apply pX|apply bX)<;>intro hc|refine⟨oD,?_⟩|exact oD|fail
  all_goals rfl
structure Pw (c:CK):Prop where
 e:gE c.m c.o=0
 o0:c.o≠[]
 p:cX (num c.o)=true
 vg:aa c.g=true
 gg:GP c.m c.o (num c.g)
 vy:aa c.y=true
 gy:GP c.m c.o (num c.y)
 hs: ∀x∈c.sh,aa x=true∧GP c.m c.o (num x)
 n1:1≤c.need
 n2:c.need≤c.sh.length
 nq:c.sh.length<num c.o
 SA:oP c=true
theorem rP {c:CK} (h:fE c=0):Pw c:=by
 unfold fE at h
 split at h
 ·cases h
 rename_i h1
 split at h
 ·cases h
 split at h
 ·rename_i h3;exact absurd h h3
 rename_i h3
 split at h
 ·cases h
 rename_i h4
 split at h
 ·cases h
 rename_i h5
 split at h
 ·cases h
 rename_i h6
 split at h
 case isFalse=>cases h
 rename_i h7;obtain⟨hE,ho,vg,gg,-,vy,gy,-⟩:=o7 (by simpa using h3)
 refine⟨hE,ho,by simpa using h4,vg,gg,vy,gy,fun x hx=> ?_,by omega,by omega,by omega,h7⟩
 have h8:c.sh.all (jz c.m c.o)=true:=by simpa using h6
 have:=List.all_eq_true.1 h8 x hx;unfold jz at this;rw[Bool.and_eq_true]at this;exact(bG hE).1 this.2
theorem zo {m o x:Bytes} (hE:gE m o=0) (vx:aa x=true) (hx:GP m o (num x)):jz m o x=true:=by
 unfold jz;rw[hE,(bG hE).2 ⟨vx,hx⟩];rfl
theorem C9 {c:CK} (k:Pw c) (lo:c.o.length≤8):mD c.o [2]:=by
 obtain⟨-,vo,-,-,hq⟩:=fY k.e;have:=(hq k.o0).1;exact⟨vo,rfl,lo,by decide,by omega,by decide⟩
theorem yj {c:CK} (k:Pw c) (lm:c.m.length≤8) (lo:c.o.length≤8) {i:Nat} {a d:Bytes} (hi:fq c.m c.o (c.sh.getD (i-1) [])=true) (ha:fq c.m c.o a=true) (hd:fq c.m c.o d=true):Bj c.o [2] (cC c i a d):=by
 have hg:fq c.m c.o c.g=true:=(bG k.e).2 ⟨k.vg,k.gg⟩;have ho:=k.o0;have hor:aW [(c.m,c.o)]=c.o:=by simp[aW,ho]
 refine⟨C9 k lo,⟨⟨?_,?_,?_,?_,?_,?_⟩,?_,?_,?_,?_,?_,?_,?_⟩,?_⟩
 ·intro p hp;simp only[cC,List.mem_singleton]at hp;subst hp;exact⟨lm,lo⟩
 ·intro b hb;simp only[cC,List.mem_singleton]at hb;subst hb;decide
 ·intro q hq;simp only[cC,List.mem_cons,List.not_mem_nil,or_false]at hq;rcases hq with rfl|rfl<;>simp[sF]
 ·simp[cC]
 ·simp[cC]
 ·simp[cC]
 ·intro p hp;simp only[cC,List.mem_singleton]at hp;subst hp;exact⟨k.e,lm,lo⟩
 ·intro b hb;simp only[cC,List.mem_singleton]at hb;subst hb;exact⟨rfl,by decide⟩
 ·intro q hq;simp only[cC,List.mem_cons,List.not_mem_nil,or_false]at hq;rcases hq with rfl|rfl
  ·refine⟨Int.le_refl _,by simp[cC],hi,by simp,fun t ht=> ?_⟩
   simp only[List.mem_singleton]at ht;subst ht;exact⟨by simp[sF],by simp[sF,cC],hg,rfl⟩
  ·refine⟨Int.le_refl _,by simp[cC],hd,by simp,fun t ht=> ?_⟩
   simp only[List.mem_singleton]at ht;subst ht;exact⟨by simp[sF],by simp[sF,cC],ha,rfl⟩
 ·simp[cC]
 ·simp[cC]
 ·simp[cC]
 ·simp[zL,cC,hor,EH,Fy,ho]
 ·intro b hb _;show num c.o≤num (aW [(c.m,c.o)]);rw[hor];exact Nat.le_refl _
theorem vY (c:CK) (lm:c.m.length≤8) (lo:c.o.length≤8) {i:Nat} {a d:Bytes} (lg:c.g.length≤128) (li:(c.sh.getD (i-1) []).length≤128) (la:a.length≤128) (ld:d.length≤128):OA (cC c i a d):=by
 refine⟨⟨c.m,c.o,rfl,by omega,by omega⟩,by simp[cC],by simp[cC],fun b hb=> ?_,by simp[cC],fun q hq=> ?_⟩
 ·simp only[cC,List.mem_singleton]at hb;subst hb;decide
 ·simp only[cC,List.mem_cons,List.not_mem_nil,or_false]at hq;rcases hq with rfl|rfl
  ·refine⟨Int.le_refl _,by simp,by show(c.sh.getD (i-1) []).length≤1000;omega,by simp,fun t ht=> ?_⟩
   simp only[List.mem_singleton]at ht;subst ht;exact⟨by simp[sF],by simp[sF],by show c.g.length≤1000;omega,by simp[sF]⟩
  ·refine⟨Int.le_refl _,by simp,by show d.length≤1000;omega,by simp,fun t ht=> ?_⟩
   simp only[List.mem_singleton]at ht;subst ht;exact⟨by simp[sF],by simp[sF],by show a.length≤1000;omega,by simp[sF]⟩
theorem Jm (c:CK) {i:Nat} {a d:Bytes} {x:Nat} (hx:x<18446744073709551616):WS (cC c i a d) [(x:Int)]:=by
 have hL:=js;intro q hq;simp only[cC,List.mem_cons,List.not_mem_nil,or_false]at hq;rcases hq with rfl|rfl
 all_goals
  intro t ht;simp only[List.mem_singleton]at ht;subst ht;refine⟨by simp[sF],by simp[sF],rfl,?_,?_⟩
  ·show((x:Int)).natAbs<bR;omega
  ·show(1:Nat)*((x:Int)).natAbs<bR;omega
abbrev RD (a b:Bytes):PV:= .agg [.s a, .s b]
theorem sQ (c:CK) (ln:c.name.length≤60) (lm:c.m.length≤8) (lo:c.o.length≤8) (ls:c.sh.length≤8) (hc:fE c=0) {i:Nat} (h1:1≤i) (hi:i≤c.sh.length) {x A B:Bytes} {vs:List Bytes} {sd:Bytes} {a:Int} (hl:vs.length<1000000) (hsd:sd.length<1000000)
  (hv:[x,A,B].all aa=true) (hg:dc vs a=true) (hA:jz c.m c.o A=true) (hB:jz c.m c.o B=true) (hx:num x<num c.o) (hy:num c.g^num x%num c.m=num (c.sh.getD (i-1) [])) {d:Nat} (hd:d=num A^num x%num c.m) {ch:Bytes} {rs:List Int} {j:Nat} (hp:vJ c.o [2] (lz c i) (cC c i A (aI d)) [(num x:Int)] vs sd a= .ok (ch,rs,j)):
  aA Tryz.prog 21 [c.pv,E i, .s x,RD A B,T vs sd a] (.tup [.agg [E i,N d, .s ch, .sl (rs.map Zp), .sl [], .sl []],T vs sd (j:Nat),E 0]):=by
 have k:=rP hc;have v1:=kB c ln lm lo ls;rw[hc]at v1;have v2:=jf [x,A,B] (by simp)
 rw[hv]at v2;simp only[List.map_cons,List.map_nil]at v2;have v3:=xS vs sd a hl;rw[hg]at v3;have v4:=AJ c lm lo (by omega) i (xs:=[A,B]) (by simp)
 have e4:DA c (i:Nat) [A,B]=0:=by
  unfold DA;rw[if_neg (by omega)]
  simp[hA,hB]
 rw[e4]at v4;simp only[List.map_cons,List.map_nil]at v4;simp only[List.all_cons,List.all_nil,Bool.and_true,Bool.and_eq_true]at hv;obtain⟨vx,vA,vB⟩:=hv;obtain⟨vm,vo,m1,-,-⟩:=fY k.e;have hqW:=cv lo;have hmW:=cv lm;have hW:=iA;have v5:=kz vx;have hAg:fq c.m c.o A=true:=by unfold jz at hA;rw[Bool.and_eq_true]at hA;exact hA.2
 obtain⟨-,gA⟩:=(bG k.e).1 hAg;have v6:=fS lm lo (ng:=false) k.e k.gg vx rfl;rw[dt k.vg,show br (num c.m) (num c.g) false (num x)=num c.g^num x%num c.m from rfl,hy]at v6
 have hj:=ax ([]:Bytes) (show i-1<c.sh.length by omega)
 obtain⟨vj,gj⟩:=k.hs _ hj;rw[dt vj]at v6;have v7:=fS lm lo (ng:=false) k.e gA vx rfl;rw[dt vA,show br (num c.m) (num A) false (num x)=num A^num x%num c.m from rfl,←hd]at v7
 have hdl:d<num c.m:=by rw[hd];exact Nat.mod_lt _ (by omega)
 have vd:aa (aI d)=true:=vN (by omega)
 have gd:fq c.m c.o (aI d)=true:=(bG k.e).2 ⟨vd,by rw[aE,hd];exact gA.pow _⟩
 have v8:=xJ c;have v9:=BM c (by omega) (i:=i) (by omega)
 have w1:=A7 c h1 hi (by omega) A (aI d)
 have hS:=yj k lm lo (i:=i) (a:=A) (d:=aI d) ((bG k.e).2 ⟨vj,gj⟩) hAg gd;have hB2:=vY c lm lo (i:=i) (a:=A) (d:=aI d) (bw k.vg) (bw vj) (bw vA) (bw vd);have hxl:(lz c i).length≤100000:=by
  have: ∀i,i<100→(Lib.decDigits i).length≤2:=by decide+kernel
  have:=this i (by omega)
  simp[lz];omega
 have w2:=Ek hS hB2 (by simp[cC]) rfl hxl (w:=[(num x:Int)]) (by simp) (fun z hz=>by simp at hz;subst hz;have:=yw (o:=x);have:=js;omega) (fun _=>Jm c (by omega)) (vs:=vs) (sd:=sd) (a:=a) hl hsd
 rw[hp]at w2;simp only[P8,List.map_cons,List.map_nil]at w2;rw[show Zp (num x:Int)= .agg [.b false, .s x] by show cH (ik (num x:Int))= _;rw[uB vx];rfl]at w2
 obtain⟨r,rfl⟩: ∃r,i=r+1:=⟨i-1,by omega⟩
 rw[Nat.add_sub_cancel]at v6 hy vj;have e1:=eN (l:=c.sh) (x:=r) (by omega)
 have l1:(c.sh.map PV.s).length=c.sh.length:=List.length_map ..;have hw: ∀ _:True,IntKind.i64.wrap (((r+1:Nat):Int)-1)=(r:Int):=fun _=>by rw[IntWalk.i64_in _ (by omega)];omega
 have c1:=mc vx vo;have hcg:=LH (num x) (num c.o);rw[decide_eq_true hx]at hcg;have hrl:r<c.sh.length:=by omega
 generalize aO (num x) (num c.o)=cm at*;generalize c.sh.getD r []=y at*;generalize lz c (r+1)=cx at*;generalize cC c (r+1) A (aI d)=S at*;clear hp hS hB2 k hy hd hc hj;obtain⟨sg,sv,se⟩:=S;obtain⟨name,m,o,g,yy,need,sh⟩:=c;simp only[CK.pv,bT.pv]at*;refine eW Tryz.call21 Tryz.func21 ?_;repeat' first|simp only[go_sem,seval,l1,e1,hw trivial,hcg,beq_self_eq_true,bne_self_eq_false]|refine cP v1 ?_|refine cP v2 ?_|refine cP v3 ?_|refine cP v4 ?_|refine cP v5 ?_|refine cP v6 ?_|refine cP v7 ?_|refine cP c1 ?_|refine cP v8 ?_|refine cP v9 ?_|refine cP w1 ?_|refine cP w2 ?_|refine sB ?_|(first|apply pX|apply bX)<;>intro hc|refine⟨oD,?_⟩|exact oD|fail
 all_goals rfl
theorem Ao (c:CK) (ln:c.name.length≤60) (lm:c.m.length≤8) (lo:c.o.length≤8) (ls:c.sh.length≤8) (k:Pw c) {i:Nat} (h1:1≤i) (hi:i≤c.sh.length) {A B d:Bytes} (hv:[A,B,d].all aa=true) (hA:jz c.m c.o A=true) (hB:jz c.m c.o B=true) (hd:jz c.m c.o d=true) {ch:Bytes} {rs:List (Bool×Bytes)} {gs:List Bytes} {ls':List (List (Bool×Bytes))} (n1:rs.length<1000000) (n2:gs.length≤1000) (n3:ls'.length≤1000) (n4: ∀l∈ls',l.length<4611686018427387904):
  aA Tryz.prog 68 [c.pv,RD A B, .agg [E i, .s d, .s ch, .sl (rs.map cH), .sl (gs.map .s), .sl (ls'.map A5)]] (E (wF c.o [2] (lz c i) (cC c i A d) ch rs gs ls')):=by
 have v2:=jf [A,B,d] (by simp)
 rw[hv]at v2;simp only[List.map_cons,List.map_nil]at v2;have v4:=AJ c lm lo (by omega) i (xs:=[A,B,d]) (by simp)
 have e4:DA c (i:Nat) [A,B,d]=0:=by
  unfold DA;rw[if_neg (by omega)]
  simp[hA,hB,hd]
 rw[e4]at v4;simp only[List.map_cons,List.map_nil]at v4;simp only[List.all_cons,List.all_nil,Bool.and_true,Bool.and_eq_true]at hv;obtain⟨vA,vB,vd⟩:=hv;have hAg:fq c.m c.o A=true:=by unfold jz at hA;rw[Bool.and_eq_true]at hA;exact hA.2
 have hdg:fq c.m c.o d=true:=by unfold jz at hd;rw[Bool.and_eq_true]at hd;exact hd.2
 have hj:=ax ([]:Bytes) (show i-1<c.sh.length by omega)
 obtain⟨vj,gj⟩:=k.hs _ hj;have v8:=xJ c;have v9:=BM c (by omega) (i:=i) (by omega)
 have w1:=A7 c h1 hi (by omega) A d
 have hS:=yj k lm lo (i:=i) (a:=A) (d:=d) ((bG k.e).2 ⟨vj,gj⟩) hAg hdg;have hB2:=vY c lm lo (i:=i) (a:=A) (d:=d) (bw k.vg) (bw vj) (bw vA) (bw vd);have hxl:(lz c i).length≤100000:=by
  have: ∀i,i<100→(Lib.decDigits i).length≤2:=by decide+kernel
  have:=this i (by omega)
  simp[lz];omega
 have w2:=Fe hS hB2 (by simp[cC]) hxl (ch:=ch) (rs:=rs) (gs:=gs) (ls:=ls') n1 n2 n3 n4
 generalize wF c.o [2] (lz c i) (cC c i A d) ch rs gs ls'=E0 at*;generalize lz c i=cx at*;generalize cC c i A d=S at*;clear hS hB2 k hj;obtain⟨sg,sv,se⟩:=S;obtain⟨name,m,o,g,yy,need,sh⟩:=c;simp only[CK.pv,bT.pv,C8]at*;refine eW Tryz.call68 Tryz.func68 ?_;repeat' first|simp only[go_sem,seval]|refine cP v2 ?_|refine cP v4 ?_|refine cP v8 ?_|refine cP v9 ?_|refine cP w1 ?_|refine cP w2 ?_|refine sB ?_|(first|apply pX|apply bX)<;>intro hc|refine⟨oD,?_⟩|exact oD|fail
 all_goals rfl
theorem tW (m x:Nat) (z:Int):br m x (ik z).1 (num (ik z).2)=cb m x z:=by
 simp only[ik,uc,zs];rfl
theorem DG (m x z:Nat):br m x (!(aI z==[])) (num (aI z))=cb m x (-(z:Int)):=by
 have e:(!(aI z==([]:Bytes)))=decide (-(z:Int)<0):=by
  rw[Bool.eq_iff_iff];simp[ep];omega
 rw[e,aE];unfold cb;congr 1;omega
theorem vw {c sl ctx:Bytes} {s:bT} {w:List Int} {vs:List Bytes} {sd:Bytes} {ch:Bytes} {rs:List Int} {j:Nat}: ∀{n i:Nat},uR c sl ctx s w vs sd n i= .ok (ch,rs,j)→ ∃i' ms z,iV (aW s.groups) c sl vs sd s.vars i' []= .ok ms∧z=gJ (Bh ctx s (qd s ms)) c∧ch=aI z∧rs=dG (aW s.groups) s.vars ms w z
 |0,i,h=>by cases h
 |n+1,i,h=>by
  rw[uR]at h
  split at h
  ·cases h
  ·rename_i ms hms
   split at h
   ·simp only[Except.ok.injEq,Prod.mk.injEq]at h;obtain⟨rfl,rfl,-⟩:=h;exact⟨i,ms,_,hms,rfl,rfl,rfl⟩
   ·exact vw h
theorem x7 {c sl ctx:Bytes} {s:bT} {w:List Int} {vs:List Bytes} {sd:Bytes} {a:Int} {R:Bytes×List Int×Nat} (h:vJ c sl ctx s w vs sd a= .ok R):uR c sl ctx s w vs sd 64 a.toNat= .ok R:=by
 unfold vJ at h
 split at h
 ·cases h
 ·exact h
theorem KB {m o x y z b t:Nat} (hm:0<m) (hu:bN m b) (ho:b^o%m=1%m) (ht:b^x%m=t):cb m t (-(z:Int))*cb m b (((y:Int)+z*x)%o)%m=cb m b y:=by
 have h1:cb m b (((y:Int)+z*x)%o)=cb m b ((y:Int)+z*x):=mC hu hm ho (by
  refine⟨-(((y:Int)+z*x)/o),?_⟩;have:=Int.mul_ediv_add_emod ((y:Int)+z*x) o
  grind)
 rw[h1,←ht,show((z:Int)*(x:Int))=((z*x:Nat):Int)from(Int.natCast_mul _ _).symm]
 exact wE hu hm _ _ _
theorem FO {c:CK} (k:Pw c) (lo:c.o.length≤8) {i:Nat} {A d ctx:Bytes} (gA:GP c.m c.o (num A)) {x:Nat} (h1:num c.g^x%num c.m=num (c.sh.getD (i-1) [])) (h2:num A^x%num c.m=num d) {vs:List Bytes} {sd:Bytes} {a:Int} {ch:Bytes} {rs:List Int} {j:Nat} (h:vJ c.o [2] ctx (cC c i A d) [(x:Int)] vs sd a= .ok (ch,rs,j)):wF c.o [2] ctx (cC c i A d) ch (rs.map ik) [] []=0:=by
 obtain⟨i',ms,z,hms,hz,rfl,rfl⟩:=vw (x7 h);have hor:aW (cC c i A d).groups=c.o:=by simp[cC,aW,k.o0]
 have hvr:(cC c i A d).vars=[[]]:=rfl;rw[hor,hvr]at hms;rw[hor,hvr];simp only[iV,ja,if_true,List.nil_append]at hms;obtain⟨vm,vo,m1,-,hq⟩:=fY k.e;have q1:=(hq k.o0).1
 split at hms
 ·cases hms
 rename_i yz hyz
 split at hyz
 ·cases hyz
 rename_i yb hyb;injection hyz with hyz
 injection hms with hms
 subst hyz;subst hms;obtain⟨y,hy⟩: ∃y,y=num yb:=⟨_,rfl⟩;rw[←hy]at hz⊢;have hzc:z<num c.o:=by rw[hz];exact tc _ (by omega)
 have hr0:dG c.o [[]] [(y:Int)] [(x:Int)] z=[((y:Int)+z*x)%num c.o]:=by simp[dG,eg]
 rw[hr0];have hr1:0≤((y:Int)+z*x)%num c.o:=Int.emod_nonneg _ (by omega)
 have hr2:((y:Int)+z*x)%num c.o<num c.o:=Int.emod_lt_of_pos _ (by omega)
 have go: ∀b,GP c.m c.o b→b^num c.o%num c.m=1%num c.m:=fun b hb=>hb.ord.resolve_left k.o0
 have hfm:oQ (cC c i A d) (aI z) ([((y:Int)+z*x)%num c.o].map ik)=qd (cC c i A d) [(y:Int)]:=by
  have e1:=KB (o:=num c.o) (x:=x) (y:=y) (z:=z) (by omega) k.gg.unit (go _ k.gg) h1
  have e2:=KB (o:=num c.o) (x:=x) (y:=y) (z:=z) (by omega) gA.unit (go _ gA) h2
  have p1: ∀b,GP c.m c.o b→br (num c.m) b false (num [1])=b:=fun b hb=>by
   show b^(num [1])%num c.m=b;rw[show num ([1]:Bytes)=1 from rfl,Nat.pow_one,Nat.mod_eq_of_lt hb.lt]
  have t1: ∀b:Bytes,tz [(y:Int)] (sF b 0)=y:=fun b=>by simp[tz,sF,AQ,num]
  simp only[oQ,qd,cC,List.map_cons,List.map_nil,iS,LI,List.foldl_cons,List.foldl_nil,o5,sF,show((0:Int)).toNat=0 from rfl,Int.toNat_natCast,List.getD_cons_zero,DG,p1 _ k.gg,p1 _ gA,tW,e1,e2]
  simp only[show∀b,tz [(y:Int)] ⟨b,((0:Nat):Int),false,[1]⟩=y from fun b=>t1 b,BG,tW]
 obtain⟨r,hr⟩: ∃r:Nat,((y:Int)+z*x)%num c.o=r:=⟨_,(Int.toNat_of_nonneg hr1).symm⟩;rw[hr]at hfm hr2⊢;have hqW:=cv lo;have iz:ik (r:Int)=(false,aI r):=by
  have:=uB (x:=aI r) (vN (by omega))
  rwa[aE]at this
 have a1:aa (aI z)=true:=vN (by omega)
 have a2:aa (aI r)=true:=vN (by omega)
 simp only[List.map_cons,List.map_nil,iz]at hfm⊢;have f1:fz c.o (cC c i A d).vars.length (aI z) [(false,aI r)] [] []=0:=by
  unfold fz;rw[a1,if_neg (by simp[bM,a2]),if_neg (by simp[cC]),if_neg (by rw[aE];omega)]
 have f2:eu (aW (cC c i A d).groups) c.o [2] (cC c i A d).vars (aI z) [(false,aI r)]=0:=by
  rw[hor,hvr];have f3:zc c.o c.o [2] [[]] [(false,aI r)]=true:=sO fun q hq=>by
   have:q=0:=by simp at hq;omega
   subst this;simp[vC,lR,aE];omega
  unfold eu;rw[a1,f3,if_neg (by simp[bM,a2]),if_neg (by rw[aE];omega),if_neg (by simp),if_neg (by simp)]
 unfold wF;rw[if_neg (by rw[f1];simp),if_neg (by rw[f2];simp),hfm,←hz,if_pos rfl]
end Go.Proofs.YtmobkhegihemeaaGreatDoor
namespace Go.Proofs.YtmobkhegihemeaaGreatDoor
open Go Go.Dom Go.Num
set_option maxRecDepth 100000
noncomputable def Ot (q:Nat) (pts:List Nat) (k:Nat):Int:=(cA (qU q (pts.getD k 0:Nat) ((nI pts).eraseIdx k)).toNat q:Nat)
theorem ED {q:Nat} (hp:cX q=true) {pts:List Nat} (hd:pts.Nodup) (hb: ∀a∈pts,a≤8∧a<q) {k:Nat} (hk:k<pts.length):Cg q (Ot q pts k*uH ((nI pts).eraseIdx k) ((nI pts).getD k 0)) 1:=by
 have h2:=vV hp;have hg:=BI hp hd hb hk;have hu:=(dO (by omega) hg).inv.2
 have h5:=qh (q:=(q:Int)) (by omega) (pts.getD k 0:Nat) ((nI pts).eraseIdx k)
 have hs:=D0 (q:Int) (pts.getD k 0:Nat) ((nI pts).eraseIdx k);unfold Ot;rw[kD];obtain⟨s,hs0⟩: ∃s:Nat,qU q (pts.getD k 0:Nat) ((nI pts).eraseIdx k)=s:=⟨_,(Int.toNat_of_nonneg h5.1).symm⟩;rw[hs0]at hs hu⊢;rw[Int.toNat_natCast]at hu⊢;generalize cA s q=i at*;refine((Cg.eR (i:Int)).mul hs.symm).trans ?_;have h1:Cg q (((s*i%q:Nat):Int)) ((s*i:Nat):Int):=by rw[Int.natCast_emod];exact Cg.emod _ _
 have h3:Cg q (((1%q:Nat):Int)) ((1:Nat):Int):=by rw[Int.natCast_emod];exact Cg.emod _ _
 rw[hu]at h1;rw[←Int.natCast_mul,Nat.mul_comm i s];exact h1.symm.trans h3
theorem P4 {q:Int} {l:List Int} (h: ∀x∈l,0≤x∧x<q):nI (tN l)=l:=by
 unfold nI tN;rw[List.map_map]
 conv=>rhs;rw[←List.map_id l]
 exact List.map_congr_left fun x hx=>Int.toNat_of_nonneg (h x hx).1
theorem Jq {q:Int} (hq:0<q) (l:List Int) (f:Nat→Int): ∀x∈lj q l f,0≤x∧x<q:=fun x hx=>by
 obtain⟨j,-,rfl⟩:=List.mem_map.1 hx;exact oi hq _ _ _ _
theorem Em {n i k:Nat} (hk:k<n):(uv n i).getD k 0=if k=i then 1 else 0:=by
 unfold uv;rw[List.getD_eq_getElem?_getD,List.getElem?_set]
 by_cases e:i=k
 ·subst e;simp[hk]
 ·rw[if_neg e,if_neg (fun h=>e h.symm),List.getElem?_replicate,if_pos hk];rfl
theorem BT {q:Nat} (hp:cX q=true) (pts:List Nat) (x:Nat) {i:Nat} (hi:i<pts.length):Cg q (jo q pts x i:Nat) (Ov (nI pts) (Ot q pts) i (x:Int)):=by
 have h2:=vV hp;have hl:nI (oO q pts (uv pts.length i))=lj q (nI pts) (fN q pts (uv pts.length i)):=P4 (Jq (q:=(q:Int)) (by omega) _ _)
 have hb:=nY (q:=(q:Int)) (by omega) (x:Int) (lj q (nI pts) (fN q pts (uv pts.length i)))
 unfold jo Ct;rw[hl,Int.toNat_of_nonneg hb.1];refine CP (by rw[gX];exact hi) ?_ (fun k hk hn=> ?_) _
 ·unfold fN Ot;rw[Em hi,if_pos rfl,Nat.one_mul,Int.natCast_emod];exact Cg.emod _ _
 ·rw[gX]at hk;unfold fN;rw[Em hk,if_neg hn,Nat.zero_mul,Nat.zero_mod];exact Cg.eR _
theorem uV (m q:Nat) (pts kG:List Nat) (x:Nat) (hl:kG.length=pts.length):DL m q pts kG x=rV m ((List.range pts.length).map fun k=>(kG.getD k 0,((jo q pts x k:Nat):Int))):=by
 unfold DL oX;rw[←HO _ (fun p=>(p.1,(decide (p.2<0),aI p.2.natAbs))) fun _=>rfl,List.map_map]
 congr 1;refine List.ext_getElem? fun t=> ?_
 by_cases ht:t<pts.length
 ·rw[List.getElem?_map,List.getElem?_range ht,(List.getElem?_zip_eq_some (z:=(kG[t]'(by omega),(false,aI (jo q pts x t))))).2 ⟨List.getElem?_eq_getElem (by omega),by rw[List.getElem?_map,List.getElem?_range ht];rfl⟩]
  simp[List.getD_eq_getElem?_getD,List.getElem?_eq_getElem (show t<kG.length by omega)]
 ·rw[List.getElem?_eq_none (by simp;omega),List.getElem?_eq_none (by simp;omega)]
theorem Ki {m q g:Nat} (m0:0<m) (hg:bN m g) (ho:g^q%m=1%m) (hp:cX q=true) {pts:List Nat} (hd:pts.Nodup) (hb: ∀a∈pts,a≤8∧a<q) {c:List Int} (hc:c.length≤pts.length) {kG:List Nat} (hl:kG.length=pts.length) (he: ∀k,k<pts.length→kG.getD k 0=cb m g (dP c (pts.getD k 0:Nat))) (x:Nat):DL m q pts kG x=cb m g (dP c (x:Int)):=by
 rw[uV m q pts kG x hl];have hn:=gX pts;have:=E9 (m:=m) (q:=q) (l:=nI pts) (w:=Ot q pts) hg m0 ho (uj hp hd hb) (fun i hi=>ED hp hd hb (by omega)) (c:=c) (by omega) (x:=x) (v:=fun k=>((jo q pts x k:Nat):Int)) (fun i hi=>BT hp pts x (by omega)) (e:=fun k=>dP c (pts.getD k 0:Nat)) (fun i hi=>by rw[kD];exact Cg.eR _)
 rw[hn]at this;rw[←this];congr 1;exact List.map_congr_left fun k hk=>by rw[he k (List.mem_range.1 hk)]
structure Fc (C:CK) (c:List Int):Prop where
 e:gE C.m C.o=0
 o0:C.o≠[]
 p:cX (num C.o)=true
 gg:GP C.m C.o (num C.g)
 n1:1≤C.need
 n2:C.need≤C.sh.length
 nq:C.sh.length<num C.o
 n8:C.sh.length≤8
 hc:c.length≤C.need.toNat
 he: ∀k:Nat,k≤C.sh.length→num ((C.y::C.sh).getD k [])=cb (num C.m) (num C.g) (dP c (k:Int))
theorem yp (C:CK) {d:Nat} (h:1≤d):C.kG d=(C.y::C.sh).take d:=by
 obtain⟨n,rfl⟩: ∃n,d=n+1:=⟨d-1,by omega⟩
 rfl
theorem uI (C:CK) {d k:Nat} (hk:k<d) (hd:d≤C.sh.length+1):((C.kG d).map num).getD k 0=num ((C.y::C.sh).getD k []):=by
 rw[yp C (by omega),List.getD_eq_getElem?_getD,List.getElem?_map,List.getElem?_take,if_pos hk,List.getD_eq_getElem?_getD,List.getElem?_eq_getElem (show k<(C.y::C.sh).length by rw[List.length_cons];omega)];rfl
theorem uM (C:CK) {d:Nat} (h:1≤d) (hd:d≤C.sh.length+1):((C.kG d).map num).length=d:=by
 rw[yp C h,List.length_map,List.length_take,List.length_cons];omega
theorem uC {n q:Nat} (h8:n≤9) (hq:n≤q):(List.range n).Nodup∧ ∀a∈List.range n,a≤8∧a<q:=⟨List.nodup_range,fun a ha=>by have:=List.mem_range.1 ha;omega⟩
theorem z8 {n k:Nat} (h:k<n):(List.range n).getD k 0=k:=by rw[List.getD_eq_getElem?_getD,List.getElem?_range h];rfl
theorem Fc.law {C:CK} {c:List Int} (h:Fc C c) (i:Nat):C.at i=cb (num C.m) (num C.g) (dP c (i:Int)):=by
 obtain⟨-,-,m1,-,-⟩:=fY h.e;have a1:=h.n1;have a2:=h.n2;have a3:=h.nq;have a4:=h.n8;obtain⟨r1,r2⟩:=uC (n:=C.need.toNat) (q:=num C.o) (by omega) (by omega)
 unfold CK.at
 refine Ki (by omega) h.gg.unit (h.gg.ord.resolve_left h.o0) h.p r1 r2 (by rw[List.length_range];exact h.hc) (by rw[List.length_range];exact uM C (by omega) (by omega)) (fun k hk=> ?_) i
 rw[List.length_range]at hk;rw[z8 hk,uI C hk (by omega)]
 exact h.he k (by omega)
theorem Fc.SA {C:CK} {c:List Int} (h:Fc C c):oP C=true:=by
 unfold oP;refine List.all_eq_true.2 fun i hi=> ?_
 have hi:=List.mem_range.1 hi
 by_cases g:i<C.need.toNat
 ·rw[decide_eq_true g];rfl
 ·have a1:=h.n1;obtain⟨j,rfl⟩: ∃j,i=j+1:=⟨i-1,by omega⟩
  have:=h.he (j+1) (by omega)
  rw[List.getD_cons_succ]at this;rw[decide_eq_true (show C.at (j+1)=num (C.sh.getD (j+1-1) [])from(h.law _).trans this.symm),Bool.or_true]
theorem Fl {C:CK} (h:oP C=true) {i:Nat} (hi:i≤C.sh.length) (hn:C.need.toNat≤i) (i0:1≤i):C.at i=num ((C.y::C.sh).getD i []):=by
 unfold oP at h;have:=List.all_eq_true.1 h i (List.mem_range.2 (by omega))
 rw[decide_eq_false (show¬i<C.need.toNat by omega),Bool.false_or]at this
 have:=of_decide_eq_true this;obtain⟨j,rfl⟩: ∃j,i=j+1:=⟨i-1,by omega⟩
 exact this
def CK.put (C:CK) (t:Nat) (v:Bytes):CK:=⟨C.name,C.m,C.o,C.g,C.y,C.need,C.sh.set t v⟩
theorem u4 (C:CK) {t k:Nat} (v:Bytes) (ht:t<C.sh.length):((C.put t v).y::(C.put t v).sh).getD k []=if k=t+1 then v else(C.y::C.sh).getD k []:=by
 show(C.y::C.sh.set t v).getD k []= _
 cases k with
 |zero=>rw[if_neg (by omega)];rfl
 |succ k=>
  rw[List.getD_cons_succ,List.getD_cons_succ,List.getD_eq_getElem?_getD,List.getElem?_set]
  by_cases e:t=k
  ·subst e;rw[if_pos rfl,if_pos rfl,if_pos ht];rfl
  ·rw[if_neg e,if_neg (by omega),List.getD_eq_getElem?_getD]
theorem Fc.change {C:CK} {c:List Int} (h:Fc C c) {t:Nat} (ht:t<C.sh.length) {u:Nat} (hu:GP C.m C.o u) {v:Bytes} (hv:num v=num (C.sh.getD t [])*u%num C.m) (hne:num v≠num (C.sh.getD t [])):oP (C.put t v)=false:=by
 rw[Bool.eq_false_iff];intro hc;obtain⟨-,-,m1,-,-⟩:=fY h.e;have a1:=h.n1;have a2:=h.n2;have a3:=h.nq;have a4:=h.n8;have m0:0<num C.m:=by omega
 have hlen:(C.put t v).sh.length=C.sh.length:=List.length_set ..;have hneed:(C.put t v).need=C.need:=rfl
 by_cases hb:C.need.toNat≤t+1
 ·have h1:=Fl hc (i:=t+1) (by rw[hlen];omega) (by rw[hneed];exact hb) (by omega)
  rw[u4 C v ht,if_pos rfl]at h1;have h2:(C.put t v).at (t+1)=C.at (t+1):=by
   unfold CK.at
   have:(C.put t v).kG C.need.toNat=C.kG C.need.toNat:=by
    unfold CK.kG CK.put;simp only;rw[List.take_set_of_le (by omega)]
   rw[hneed,this];rfl
  have h3:=h.law (t+1);have h4:=h.he (t+1) (by omega)
  rw[List.getD_cons_succ]at h4;exact hne (h1.symm.trans (h2.trans (h3.trans h4.symm)))
 ·obtain⟨n,hn⟩: ∃n,n=C.need.toNat:=⟨_,rfl⟩;have h1:=Fl hc (i:=n) (by rw[hlen];omega) (by rw[hneed,hn];exact Nat.le_refl _) (by omega)
  rw[u4 C v ht,if_neg (by omega),h.he n (by omega)]at h1
  obtain⟨r1,r2⟩:=uC (n:=n) (q:=num C.o) (by omega) (by omega)
  have hU:=h.gg.unit;have hord:=h.gg.ord.resolve_left h.o0;have e1:(C.put t v).at n=rV (num C.m) ((List.range n).map fun k:Nat=>(if k=t+1 then cb (num C.m) (num C.g) (dP c (k:Int))*u%num C.m else cb (num C.m) (num C.g) (dP c (k:Int)),((jo (num C.o) (List.range n) n k:Nat):Int))):=by
   unfold CK.at
   rw[hneed,←hn];show DL (num C.m) (num C.o) _ _ _= _;rw[uV _ _ _ _ _ (by rw[List.length_range];exact uM (C.put t v) (by omega) (by rw[hlen];omega)),List.length_range]
   congr 1;refine List.map_congr_left fun k hk=> ?_
   have hk:=List.mem_range.1 hk;rw[uI (C.put t v) hk (by rw[hlen];omega),u4 C v ht]
   by_cases e:k=t+1
   ·rw[if_pos e,if_pos e,hv,e,←h.he (t+1) (by omega),List.getD_cons_succ]
   ·rw[if_neg e,if_neg e,h.he k (by omega)]
  have e2:cb (num C.m) (num C.g) (dP c (n:Int))=rV (num C.m) ((List.range n).map fun k:Nat=>(cb (num C.m) (num C.g) (dP c (k:Int)),((jo (num C.o) (List.range n) n k:Nat):Int))):=by
   rw[←h.law n];unfold CK.at
   rw[←hn,uV _ _ _ _ _ (by rw[List.length_range];exact uM C (by omega) (by omega)),List.length_range]
   congr 1;refine List.map_congr_left fun k hk=> ?_
   have hk:=List.mem_range.1 hk;rw[uI C hk (by omega),h.he k (by omega)]
  have hi:Iv (num C.o) ((jo (num C.o) (List.range n) n (t+1):Nat):Int):=by
   have hw:=fun k (hk:k<(nI (List.range n)).length)=>ED h.p r1 r2 (k:=k) (by rwa[gX]at hk)
   have:=NP (q:=(num C.o:Int)) (l:=nI (List.range n)) (w:=Ot (num C.o) (List.range n)) hw (i:=t+1) (by rw[gX,List.length_range];omega) (x:=(n:Int)) (fun a ha=>by
    have ha:=List.mem_of_mem_eraseIdx ha;obtain⟨j,hj,rfl⟩:=List.mem_map.1 ha;have:=List.mem_range.1 hj;exact BC h.p (by omega) (by omega) (by omega) (by omega) (by omega))
   exact this.cg (BT h.p (List.range n) n (by rw[List.length_range];omega)).symm
  have hu1:cb (num C.m) u 1≠1%num C.m:=fun e=>by
   have e:=(fp (num C.m) u 1).symm.trans e;rw[Nat.pow_one]at e;refine hne ?_;have hb2:=h.he (t+1) (by omega)
   rw[List.getD_cons_succ]at hb2;rw[hv,Nat.mul_mod,e,←Nat.mul_mod,Nat.mul_one,hb2];exact j5 ..
  have e3:=qM m0 (b:=fun k:Nat=>cb (num C.m) (num C.g) (dP c (k:Int))) (fun k=>tO hU m0 _) hu.unit (hu.ord.resolve_left h.o0) hu1 (v:=fun k:Nat=>((jo (num C.o) (List.range n) n k:Nat):Int)) (i:=t+1) hi n
  rw[if_pos (by omega),←e1,←e2,h1]at e3
  have e4:=MJ m0 (tO hU m0 _) (j5 ..) e3.symm;rw[j5]at e4;exact hu1 (LR hu.unit m0 (hu.ord.resolve_left h.o0) hi e4)
end Go.Proofs.YtmobkhegihemeaaGreatDoor
