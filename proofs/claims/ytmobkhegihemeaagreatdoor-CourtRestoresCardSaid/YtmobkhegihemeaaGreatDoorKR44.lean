/-
  Part of the proof, part KR44. Own work.
-/
import Derived.Test.YtmobkhegihemeaaGreatDoorKR43
import Derived.Test.YtmobkhegihemeaaGreatDoorKR40
set_option linter.all false
namespace Go.Proofs.YtmobkhegihemeaaGreatDoor
open Go Go.Dom Go.Num
set_option maxRecDepth 100000
set_option maxHeartbeats 16000000
theorem PT (b:Bytes):aB Tryz.prog 175 [bV b] (.s (if b=[]then([]:Bytes)else b)):=by
 have h:=J6 b;split
 ·rename_i g;subst g;exact h
 ·exact h
theorem PU (m:Bytes) {o:Bytes} (h:o≠[]):aB Tryz.prog 176 [.sl [G m o], .fn (.func 177)] (E 0):=by
 have hb:(o !=([]:Bytes))=true:=by simpa using h
 have hb2:(o==([]:Bytes))=false:=by simpa using h
 have h:aB Tryz.prog 177 [G m o] (.b true):=by
  refine eW Tryz.call177 Tryz.func177 ?_;repeat' first|simp only[go_sem,seval,hb,hb2]|refine sB ?_|(first|apply pX|apply bX)<;>intro hc|refine⟨oD,?_⟩|exact oD|fail
  all_goals rfl
 refine eW Tryz.call176 Tryz.func176 ?_;repeat' first|simp only[go_sem,seval]|refine sB ?_|(first|apply pX|apply bX)<;>intro hc|refine⟨oD,?_⟩|exact oD|fail
 refine ae ?_;repeat' first|simp only[go_sem,seval]|refine cP h ?_|refine sB ?_|(first|apply pX|apply bX)<;>intro hc|refine⟨oD,?_⟩|exact oD|fail
theorem PW (b o:Bytes):aB Tryz.prog 178 [bV b, .pt (.agg [.s o]) 0] (.s (if b=[]then o else b)):=by
 unfold bV
 by_cases h:b=[]
 ·subst h;refine eW Tryz.call178 Tryz.func178 ?_;repeat' first|simp only[go_sem,seval,nn]|refine sB ?_|(first|apply pX|apply bX)<;>intro hc|refine⟨oD,?_⟩|exact oD|fail
  all_goals rfl
 ·have hb:(b==([]:Bytes))=false:=by simpa using h
  rw[if_neg h];refine eW Tryz.call178 Tryz.func178 ?_;repeat' first|simp only[go_sem,seval,hb]|refine sB ?_|(first|apply pX|apply bX)<;>intro hc|refine⟨oD,?_⟩|exact oD|fail
noncomputable def oN (s:bQ) (w:List Int) (vs:List Bytes) (a:Int):Int:=if !bm vs a then 3 else if w.length≠s.vars.length then 6 else if !rP (aS s.groups) s.vars w then 2 else if !wM s w then 18 else 0
theorem GV {c sl:Bytes} {s:bQ} (hs:vH s) {m o:Bytes} (hg1:s.groups=[(m,o)]) {w:List Int} (hw6:w.length<1000000) (hw: ∀x∈w,x.natAbs<dt) (hW:rP (aS s.groups) s.vars w=true→WS s w) {vs:List Bytes} (sd:Bytes) {a:Int} (hl:vs.length<1000000):aB Tryz.prog 115 [X0 c sl s, .sl (w.map Zp), .sl [],T vs sd a] (E (oN s w vs a)):=by
 have v1:=dm (w.map gJ) _ _ (by rw[List.length_map];omega) J5
 rw[im,o5 hw,P6]at v1;have v2:=iV [] 174 [.pt (.agg [.fn (.func 170)]) 0] (fun _=>true) (by decide) (fun x hx=>by cases hx)
 rw[show(([]:List (List (Bool×Bytes))).any fun _=>true)=false from rfl]at v2
 have v3:=z8 sd (a:=a) hl;have nv:=hs.nv;have hb:=hs.v;have hh:=fun h=>Cr hs (w:=w) h hw hW
 have hoV:=dc hs.g;have hnb: ∀b∈s.vars,aS s.groups=[]→b≠[]:=fun b h1 h2 h3=>um hs (h3▸h1) h2
 obtain⟨gs,us,es⟩:=s;simp only at hg1 nv hb hh hoV hnb;subst hg1;have l2:(us.map bV).length=us.length:=List.length_map ..;have l5:(w.map Zp).length=w.length:=List.length_map ..;have ho:aS [(m,o)]=o:=by
  by_cases h:o=[]
  ·subst h;rfl
  ·simp[aS,h]
 rw[ho]at hh hoV hnb;unfold oN;simp only[ho,X0,bQ.pv,List.map_cons,List.map_nil,dU]at hh v2⊢;clear hs hW
 cases hg:bm vs a with
 |false=>
  rw[hg]at v3;simp only[Bool.not_false,Bool.not_true,if_true];refine eW Tryz.call115 Tryz.func115 ?_;repeat' first|simp only[go_sem,seval,aH]|refine cP v1 ?_|refine cV v2 ?_|refine cP v3 ?_|refine cP lH ?_|refine sB ?_|(first|apply pX|apply bX)<;>intro hc|refine⟨oD,?_⟩|exact oD|fail
  all_goals rfl
 |true=>
  rw[hg]at v3;simp only[Bool.not_true,Bool.false_eq_true,if_false]
  by_cases hwl:w.length=us.length
  ·rw[if_neg (by simpa using hwl)]
   have hh:=hh hwl;have hI: ∀ _:True,((w.length:Int) !=us.length)=false:=fun _=>by rw[hwl];simp
   by_cases ho0:o=[]
   ·have v4:=J7 m;subst ho0;refine eW Tryz.call115 Tryz.func115 ?_;repeat' first|simp only[go_sem,seval,aH,l2,l5,hI trivial]|refine cP v1 ?_|refine cV v2 ?_|refine cP v3 ?_|refine cP lH ?_|refine cP v4 ?_|refine sB ?_|(first|apply pX|apply bX)<;>intro hc|refine⟨oD,?_⟩|exact oD|fail
    refine aj (α:=Nat) (fun i=>us.length-i) (fun i=>⟨[(1, .v (.sl (w.map Zp))),(2, .v (.sl [])),(4, .p 1000 0 0),(13, .v (.fn (.func 175))),(76, .v (.sl (us.map bV))),(77,E' us.length),(78,E' i)],[(1000,⟨0,[.v (.s c), .v (.s sl), .v (.sl [G m []]), .v (.sl (us.map bV)), .v (.sl (es.map cG.pv)), .v (.sl []), .v (.sl []), .v (.s [])],false,none⟩)],_⟩) (fun i=>i≤us.length∧ ∀j,j<i→eS (us.getD j []) (w.getD j 0) (cR [] (us.getD j []))=true) 0 (fun _=>Nat.le_refl _) ⟨Nat.zero_le _,fun j hj=>by omega⟩ ?_ ?_
    ·exact lE
    ·rintro i ⟨hi,hlts⟩ R hR;clear v1 v2 v3
     by_cases hlt:i<us.length
     ·have e1:=getD_map bV us [] hlt;have e2:=getD_map Zp w 0 (i:=i) (by omega)
      have kb:=hb _ (au [] hlt);have kw:=hw _ (au 0 (show i<w.length by omega))
      have hv0:=hnb _ (au [] hlt);have hgo:=fun h=>hR (i+1) ⟨by omega,h⟩ (by omega)
      have hbad:=fun h: ¬eS (us.getD i []) (w.getD i 0) (cR [] (us.getD i []))=true=>j9 (p:=fun i=>eS (us.getD i []) (w.getD i 0) (cR [] (us.getD i []))) hlt (Bool.eq_false_iff.2 h)
      have hnx:eS (us.getD i []) (w.getD i 0) (cR [] (us.getD i []))=true→ ∀j,j<i+1→eS (us.getD j []) (w.getD j 0) (cR [] (us.getD j []))=true:=fun h j hj=>by
       by_cases hji:j<i
       ·exact hlts j hji
       ·obtain rfl:j=i:=by omega
        exact h
      rw[←rP]at hbad;clear hR hlts hh;generalize us.getD i []=b at*;generalize w.getD i 0=x at*;have hz:=nC kw;simp only[gJ,bH,Bool.and_eq_true]at hz;have hc:=lW hz.1 (show aa (if b=[]then[]else b)=true by split;exact hoV.1;exact kb.1)
      have hbl:num (if b=[]then[]else b)=cR [] b:=by unfold cR;split<;>rfl
      rw[uD,hbl]at hc;have h3:=PT b;have hd:decide (aT x.natAbs (cR [] b)≥0)= !decide (x.natAbs<cR [] b):=L9 _ _;have hzs:zs x=decide (x<0):=rfl;simp only[bV]at e1 h3;simp only[Zp,cu,gJ]at e2;unfold eS at hbad hnx;clear hbl kb kw hz;generalize aT x.natAbs (cR [] b)=cm at*;generalize decide (x.natAbs<cR [] b)=p at*;generalize decide (x<0)=q at*;generalize (if b=[]then[]else b)=y at*
      have hbb:(b==[])=decide (b=[]):=by rw[Bool.eq_iff_iff,beq_iff_eq,decide_eq_true_eq]
      generalize decide (b=[])=b0 at*;cases p
      ·rw[hbad (by simp)]
       simp only[Bool.not_false,if_true];repeat' first|simp only[go_sem,seval,aH,l2,l5,e1,e2,hbb,hd,hzs]|refine cP h3 ?_|refine cV h3 ?_|refine cP hc ?_|refine sB ?_|(first|apply pX|apply bX)<;>intro hc|refine⟨oD,?_⟩|exact oD|fail
       all_goals rfl
      ·cases b0
       ·have hgo:=hgo (hnx (by simp))
        repeat' first|simp only[go_sem,seval,aH,l2,l5,e1,e2,hbb,hd,hzs]|refine cP h3 ?_|refine cV h3 ?_|refine cP hc ?_|refine sB ?_|(first|apply pX|apply bX)<;>intro hc|refine⟨oD,?_⟩|exact oD|fail
        refine hgo _ ?_;exact lE
       ·cases q
        ·have hgo:=hgo (hnx (by simp))
         repeat' first|simp only[go_sem,seval,aH,l2,l5,e1,e2,hbb,hd,hzs]|refine cP h3 ?_|refine cV h3 ?_|refine cP hc ?_|refine sB ?_|(first|apply pX|apply bX)<;>intro hc|refine⟨oD,?_⟩|exact oD|fail
         refine hgo _ ?_;exact lE
        ·rw[hbad (by simp)]
         simp only[Bool.not_false,if_true];repeat' first|simp only[go_sem,seval,aH,l2,l5,e1,e2,hbb,hd,hzs]|refine cP h3 ?_|refine cV h3 ?_|refine cP hc ?_|refine sB ?_|(first|apply pX|apply bX)<;>intro hc|refine⟨oD,?_⟩|exact oD|fail
         all_goals rfl
     ·obtain rfl:i=us.length:=by omega
      have hg:rP [] us w=true:=jN fun j hj=>hlts j hj
      rw[hg,Bool.true_and]at hh;rw[hg];simp only[Bool.not_true,Bool.false_eq_true,if_false];clear hR hlts hb;generalize wM ⟨[(m,[])],us,es⟩ w=b at*;cases b
      ·repeat' first|simp only[go_sem,seval]|refine cP hh ?_|refine cP px ?_|(refine ae ?_)|refine sB ?_|(first|apply pX|apply bX)<;>intro hc|refine⟨oD,?_⟩|exact oD|fail
       all_goals rfl
      ·repeat' first|simp only[go_sem,seval]|refine cP hh ?_|refine cP px ?_|(refine ae ?_)|refine sB ?_|(first|apply pX|apply bX)<;>intro hc|refine⟨oD,?_⟩|exact oD|fail
       all_goals rfl
   ·have v4:=PU m ho0;refine eW Tryz.call115 Tryz.func115 ?_;repeat' first|simp only[go_sem,seval,aH,l2,l5,hI trivial]|refine cP v1 ?_|refine cV v2 ?_|refine cP v3 ?_|refine cP lH ?_|refine cP v4 ?_|refine sB ?_|(first|apply pX|apply bX)<;>intro hc|refine⟨oD,?_⟩|exact oD|fail
    refine aj (α:=Nat) (fun i=>us.length-i) (fun i=>⟨[(1, .v (.sl (w.map Zp))),(2, .v (.sl [])),(4, .p 1000 0 0),(13, .fn (.func 178) [] [.p 1057 0 0]),(76, .v (.sl (us.map bV))),(77,E' us.length),(78,E' i)],[(1000,⟨0,[.v (.s c), .v (.s sl), .v (.sl [G m o]), .v (.sl (us.map bV)), .v (.sl (es.map cG.pv)), .v (.sl []), .v (.sl []), .v (.s [])],false,none⟩),(1057,⟨0,[.v (.s o)],false,some 22⟩)],_⟩) (fun i=>i≤us.length∧ ∀j,j<i→eS (us.getD j []) (w.getD j 0) (cR o (us.getD j []))=true) 0 (fun _=>Nat.le_refl _) ⟨Nat.zero_le _,fun j hj=>by omega⟩ ?_ ?_
    ·exact lE
    ·rintro i ⟨hi,hlts⟩ R hR;clear v1 v2 v3
     by_cases hlt:i<us.length
     ·have e1:=getD_map bV us [] hlt;have e2:=getD_map Zp w 0 (i:=i) (by omega)
      have kb:=hb _ (au [] hlt);have kw:=hw _ (au 0 (show i<w.length by omega))
      have hv0:=hnb _ (au [] hlt);have hgo:=fun h=>hR (i+1) ⟨by omega,h⟩ (by omega)
      have hbad:=fun h: ¬eS (us.getD i []) (w.getD i 0) (cR o (us.getD i []))=true=>j9 (p:=fun i=>eS (us.getD i []) (w.getD i 0) (cR o (us.getD i []))) hlt (Bool.eq_false_iff.2 h)
      have hnx:eS (us.getD i []) (w.getD i 0) (cR o (us.getD i []))=true→ ∀j,j<i+1→eS (us.getD j []) (w.getD j 0) (cR o (us.getD j []))=true:=fun h j hj=>by
       by_cases hji:j<i
       ·exact hlts j hji
       ·obtain rfl:j=i:=by omega
        exact h
      rw[←rP]at hbad;clear hR hlts hh;generalize us.getD i []=b at*;generalize w.getD i 0=x at*;have hz:=nC kw;simp only[gJ,bH,Bool.and_eq_true]at hz;have hc:=lW hz.1 (show aa (if b=[]then o else b)=true by split;exact hoV.1;exact kb.1)
      have hbl:num (if b=[]then o else b)=cR o b:=by unfold cR;split<;>rfl
      rw[uD,hbl]at hc;have h3:=PW b o;have hd:decide (aT x.natAbs (cR o b)≥0)= !decide (x.natAbs<cR o b):=L9 _ _;have hzs:zs x=decide (x<0):=rfl;simp only[bV]at e1 h3;simp only[Zp,cu,gJ]at e2;unfold eS at hbad hnx;clear hbl kb kw hz;generalize aT x.natAbs (cR o b)=cm at*;generalize decide (x.natAbs<cR o b)=p at*;generalize decide (x<0)=q at*;generalize (if b=[]then o else b)=y at*
      have hbb:(b==[])=decide (b=[]):=by rw[Bool.eq_iff_iff,beq_iff_eq,decide_eq_true_eq]
      generalize decide (b=[])=b0 at*;cases p
      ·rw[hbad (by simp)]
       simp only[Bool.not_false,if_true];repeat' first|simp only[go_sem,seval,aH,l2,l5,e1,e2,hbb,hd,hzs]|refine cP h3 ?_|refine cV h3 ?_|refine cP hc ?_|refine sB ?_|(first|apply pX|apply bX)<;>intro hc|refine⟨oD,?_⟩|exact oD|fail
       all_goals rfl
      ·cases b0
       ·have hgo:=hgo (hnx (by simp))
        repeat' first|simp only[go_sem,seval,aH,l2,l5,e1,e2,hbb,hd,hzs]|refine cP h3 ?_|refine cV h3 ?_|refine cP hc ?_|refine sB ?_|(first|apply pX|apply bX)<;>intro hc|refine⟨oD,?_⟩|exact oD|fail
        refine hgo _ ?_;exact lE
       ·cases q
        ·have hgo:=hgo (hnx (by simp))
         repeat' first|simp only[go_sem,seval,aH,l2,l5,e1,e2,hbb,hd,hzs]|refine cP h3 ?_|refine cV h3 ?_|refine cP hc ?_|refine sB ?_|(first|apply pX|apply bX)<;>intro hc|refine⟨oD,?_⟩|exact oD|fail
         refine hgo _ ?_;exact lE
        ·rw[hbad (by simp)]
         simp only[Bool.not_false,if_true];repeat' first|simp only[go_sem,seval,aH,l2,l5,e1,e2,hbb,hd,hzs]|refine cP h3 ?_|refine cV h3 ?_|refine cP hc ?_|refine sB ?_|(first|apply pX|apply bX)<;>intro hc|refine⟨oD,?_⟩|exact oD|fail
         all_goals rfl
     ·obtain rfl:i=us.length:=by omega
      have hg:rP o us w=true:=jN fun j hj=>hlts j hj
      rw[hg,Bool.true_and]at hh;rw[hg];simp only[Bool.not_true,Bool.false_eq_true,if_false];clear hR hlts hb;generalize wM ⟨[(m,o)],us,es⟩ w=b at*;cases b
      ·repeat' first|simp only[go_sem,seval]|refine cP hh ?_|refine cP px ?_|(refine ae ?_)|refine sB ?_|(first|apply pX|apply bX)<;>intro hc|refine⟨oD,?_⟩|exact oD|fail
       all_goals rfl
      ·repeat' first|simp only[go_sem,seval]|refine cP hh ?_|refine cP px ?_|(refine ae ?_)|refine sB ?_|(first|apply pX|apply bX)<;>intro hc|refine⟨oD,?_⟩|exact oD|fail
       all_goals rfl
  ·rw[if_pos hwl];have e6:((w.length:Int) !=us.length)=true:=by rw[bne_iff_ne];omega
   refine eW Tryz.call115 Tryz.func115 ?_;repeat' first|simp only[go_sem,seval,aH,l2,l5,e6]|refine cP v1 ?_|refine cV v2 ?_|refine cP v3 ?_|refine cP lH ?_|refine sB ?_|(first|apply pX|apply bX)<;>intro hc|refine⟨oD,?_⟩|exact oD|fail
   all_goals rfl
noncomputable def rZ (c sl ctx:Bytes) (s:bQ) (w:List Int) (vs:List Bytes) (sd:Bytes):Nat→Nat→Except Int (Bytes×List Int×Nat)
 |0,_=> .error 15
 |k+1,i=>match gW (aS s.groups) c sl vs sd s.vars i []with
  | .error e=> .error e
  | .ok ms=>
   if ug (aS s.groups) c sl s.vars (du (aS s.groups) s.vars ms w (fZ (AG ctx s (oV s ms)) c))then .ok (aK (fZ (AG ctx s (oV s ms)) c),du (aS s.groups) s.vars ms w (fZ (AG ctx s (oV s ms)) c),i+s.vars.length)else rZ c sl ctx s w vs sd k (i+s.vars.length)
noncomputable def nP (c sl ctx:Bytes) (s:bQ) (w:List Int) (vs:List Bytes) (sd:Bytes) (a:Int):Except Int (Bytes×List Int×Nat):=
 if oN s w vs a≠0 then .error (oN s w vs a)else rZ c sl ctx s w vs sd 64 a.toNat
theorem J8 {s:bQ} {w:List Int} {vs:List Bytes} {a:Int} (h:oN s w vs a=0):bm vs a=true∧w.length=s.vars.length∧rP (aS s.groups) s.vars w=true∧wM s w=true:=by
 unfold oN at h
 split at h
 ·cases h
 ·rename_i h1
  split at h
  ·cases h
  ·rename_i h2
   split at h
   ·cases h
   ·rename_i h3
    split at h
    ·cases h
    ·rename_i h4;exact⟨by simpa using h1,by simpa using h2,by simpa using h3,by simpa using h4⟩
theorem Mc {s:bQ} (hs:vH s) (w:List Int): ∀x∈oV s w,x.length≤8∧aa x=true:=by
 intro x hx;obtain⟨q,hq,rfl⟩:=List.mem_map.1 hx;obtain⟨q1,q2,-⟩:=hs.q q hq;have hg:=hs.g _ (au ed (show q.iE.toNat<s.groups.length by omega))
 have hm:=(fb hg.1).2.2.1;have hlt:Ky s.groups w q<256^8:=by
  unfold Ky uH;exact Nat.lt_trans (Nat.mod_lt _ (by omega)) (cE hg.2.1)
 exact⟨kf.2 hlt,vN hlt⟩
theorem Dx {c sl:Bytes} {s:bQ} (hp:z9 c sl s) (hbd:N2 s) (h00:s.eqs≠[]) {m o:Bytes} (hg1:s.groups=[(m,o)]) {ctx:Bytes} (hx:ctx.length≤100000) {w:List Int} (hw6:w.length<1000000) (hw: ∀x∈w,x.natAbs<dt) (hW:rP (aS s.groups) s.vars w=true→WS s w) {vs:List Bytes} {sd:Bytes} {a:Int} (hl:vs.length<1000000) (hsd:sd.length<1000000):
  aB Tryz.prog 64 [.agg [.s c, .s sl], .s ctx,s.pv, .sl (w.map Zp),C0, .sl [],T vs sd a] (O5 vs sd (nP c sl ctx s w vs sd a)):=by
 have hr:=hp.r;have hs:=hp.g;have hn:=oj hp;have hwt:=GV (c:=c) (sl:=sl) hs hg1 hw6 hw hW sd (a:=a) hl;unfold nP
 by_cases he:oN s w vs a=0
 ·rw[if_neg (by simpa using he)]
  rw[he]at hwt;obtain⟨f2,f3,f4,-⟩:=J8 he;obtain⟨g1,g2,g3⟩:=jc f2;obtain⟨i0,rfl⟩: ∃i:Nat,a=i:=⟨a.toNat,by omega⟩
  rw[Int.toNat_natCast];have hCo:=fun(i:Nat) (hi:i≤2147483647)=>Bz hp (vs:=vs) (sd:=sd) (i:=i) g1 hi hl hsd
  have hRe:=fun(ms:List Int) (ch:Nat) (hml:ms.length=s.vars.length) (hch:ch<num c)=>yk hp f3 hml hch f4
  have hMf:=fun(i:Nat) (hi:i≤2147483647) (ms:List Int)=>qx hp (sd:=sd) (i:=i) g1 hi hl (ms:=ms)
  have hCh:=fun(fs:List Bytes)=>pH hr hbd hx (fs:=fs)
  have hB:=fun(i:Nat) (hi:i≤2147483647)=>He (vs:=vs) (a:=i) sd (pY g1 hi) hl
  have hmI:=Mc hs;have hii: ∀ms:List Int,oV s ms≠[]∧(oV s ms).length≤900:=fun ms=>by
   have:=ue s ms;have ne:=hs.ne;exact⟨fun h=>h00 (List.length_eq_zero_iff.1 (by rw[←this,h];rfl)),by omega⟩
  obtain⟨R0,hR0⟩: ∃R0,R0=rZ c sl ctx s w vs sd 64 i0:=⟨_,rfl⟩;rw[←hR0];obtain⟨gs,us,es⟩:=s;simp only[X0,bQ.pv]at hn hwt hCo hRe hCh hMf hg1⊢;subst hg1;obtain⟨oq,hoq⟩: ∃oq,oq=aS [(m,o)]:=⟨_,rfl⟩;simp only[List.map_cons,List.map_nil,dU,←hoq]at hn hwt hCo hRe hCh hMf f4⊢;refine eW Tryz.call64 Tryz.func64 ?_;repeat' first|simp only[go_sem,seval]|refine cP hn ?_|refine cP hwt ?_|refine sB ?_|(first|apply pX|apply bX)<;>intro hc|refine⟨oD,?_⟩|exact oD|fail
  refine aj (α:=Nat×Nat) (fun p=>64-p.1) (fun p=>⟨[(1, .v (.s ctx)),(3, .v (.sl (w.map Zp))),(5, .v (.sl [])),(7, .p 1000 0 0),(9, .p 1001 0 0),(11, .p 1002 0 0),(13, .p 1003 0 0),(14, .p 1004 0 0),(15, .p 1005 0 0),(17, .p 1014 0 0),(50,E' p.1)],[(1000,⟨0,[.v (.s c), .v (.s sl)],false,none⟩),(1001,⟨0,[.v (.sl [G m o]), .v (.sl (us.map bV)), .v (.sl (es.map cG.pv))],false,none⟩),(1002,⟨0,[.v (.sl []), .v (.sl [])],false,none⟩),(1003,⟨0,[.v (.sl (vs.map .s)), .v (.s sd), .v (.i .i64 ((p.2:Nat):Int))],false,none⟩),(1004,⟨0,[.v (.s []), .sn, .sn, .sn],false,some 66⟩),(1005,⟨0,[.sn, .v (.s []), .v (.i .i64 0)],false,some 40⟩),(1014,⟨0,[.v (.s c), .v (.s sl), .v (.sl [G m o]), .v (.sl (us.map bV)), .v (.sl (es.map cG.pv)), .v (.sl []), .v (.sl []), .v (.s [])],false,some 164⟩)],1028⟩) (fun p=>p.1≤64∧p.2≤2147483647∧R0=rZ c sl ctx ⟨[(m,o)],us,es⟩ w vs sd (64-p.1) p.2) (0,i0) (fun _=>Nat.le_of_ble_eq_true rfl) ⟨Nat.zero_le _,by omega,hR0⟩ ?_ ?_
  ·exact lE
  ·clear hn hwt hR0 he f2;rintro⟨k,i⟩ ⟨hk,hi,hR0⟩ R hR;simp only at hk hi hR0
   by_cases hlt:k<64
   ·obtain⟨q,hq⟩: ∃q,64-k=q+1:=⟨63-k,by omega⟩
    rw[hq,rZ]at hR0;simp only[←hoq]at hR0;have hCo:=hCo i hi
    cases hM:gW oq c sl vs sd us i []with
    |error e=>
     simp only[hM]at hR0 hCo;subst hR0;have he:(e !=0)=true:=by rcases wU hM with rfl|rfl<;>rfl
     simp only[Eh]at hCo;clear hR;repeat' first|simp only[go_sem,seval,he]|refine cP hCo ?_|refine sB ?_|(first|apply pX|apply bX)<;>intro hc|refine⟨oD,?_⟩|exact oD|fail
     all_goals rfl
    |ok ms=>
     simp only[hM]at hR0 hCo;simp only[Eh]at hCo;obtain⟨m1,m2,m3,m4⟩:=hMf i hi ms hM;have hii:=hii ms;have hCh:=hCh (oV ⟨[(m,o)],us,es⟩ ms) hii.1 hii.2 (fun x hx=>by have:=(hmI _ x hx).1;omega)
     have hlc:=td (AG ctx ⟨[(m,o)],us,es⟩ (oV ⟨[(m,o)],us,es⟩ ms)) hr.c2;have hRe:=hRe ms _ m1 hlc m2;generalize fZ (AG ctx ⟨[(m,o)],us,es⟩ (oV ⟨[(m,o)],us,es⟩ ms)) c=z at*;have hB:=hB (i+us.length) m3;generalize oV ⟨[(m,o)],us,es⟩ ms=L at*;unfold zr at hRe
     by_cases hin:ug oq c sl us (du oq us ms w z)=true
     ·rw[if_pos hin]at hR0 hRe;subst hR0;generalize du oq us ms w z=rs at*;clear hR hMf m2 m4 hmI hM f4;repeat' first|simp only[go_sem,seval]|refine cP hCo ?_|refine cP hB ?_|refine cP hCh ?_|refine cP hRe ?_|refine sB ?_|(first|apply pX|apply bX)<;>intro hc|refine⟨oD,?_⟩|exact oD|fail
      all_goals rfl
     ·rw[if_neg hin]at hR0 hRe;have hgo:=hR (k+1,i+us.length) ⟨by omega,m3,by rw[show 64-(k+1)=q by omega];exact hR0⟩ (by simp only;omega)
      clear hR hMf m2 m4 hmI hM f4;repeat' first|simp only[go_sem,seval]|refine cP hCo ?_|refine cP hB ?_|refine cP hCh ?_|refine cP hRe ?_|refine sB ?_|(first|apply pX|apply bX)<;>intro hc|refine⟨oD,?_⟩|exact oD|fail
      refine hgo _ ?_;exact lE
   ·obtain rfl:k=64:=by omega
    simp only[Nat.sub_self,rZ]at hR0;subst hR0;clear hR hRe hCh hCo hMf hB;repeat' first|simp only[go_sem,seval]|refine sB ?_|(first|apply pX|apply bX)<;>intro hc|refine⟨oD,?_⟩|exact oD|fail
    all_goals rfl
 ·rw[if_pos he];have hb:(oN s w vs a==0)=false:=by simpa using he
  have hb2:(oN s w vs a !=0)=true:=by simpa using he
  generalize oN s w vs a=e at*;obtain⟨gs,us,es⟩:=s;simp only[X0,bQ.pv]at hn hwt⊢;refine eW Tryz.call64 Tryz.func64 ?_;repeat' first|simp only[go_sem,seval,hb,hb2]|refine cP hn ?_|refine cP hwt ?_|refine sB ?_|(first|apply pX|apply bX)<;>intro hc|refine⟨oD,?_⟩|exact oD|fail
  all_goals rfl
structure Ke (c:CK):Prop where
 e:gE c.m c.o=0
 o0:c.o≠[]
 p:cT (num c.o)=true
 vg:aa c.g=true
 gg:GP c.m c.o (num c.g)
 vy:aa c.y=true
 gy:GP c.m c.o (num c.y)
 hs: ∀x∈c.sh,aa x=true∧GP c.m c.o (num x)
 n1:1≤c.need
 n2:c.need≤c.sh.length
 nq:c.sh.length<num c.o
 RC:oz c=true
theorem gR {c:CK} (h:ec c=0):Ke c:=by
 unfold ec at h
 split at h
 ·cases h
 rename_i h1
 split at h
 ·cases h
 split at h
 ·rename_i h3;exact absurd h h3
 rename_i h3
 split at h
 ·cases h
 rename_i h4
 split at h
 ·cases h
 rename_i h5
 split at h
 ·cases h
 rename_i h6
 split at h
 case isFalse=>cases h
 rename_i h7;obtain⟨hE,ho,vg,gg,-,vy,gy,-⟩:=iL (by simpa using h3)
 refine⟨hE,ho,by simpa using h4,vg,gg,vy,gy,fun x hx=> ?_,by omega,by omega,by omega,h7⟩
 have h8:c.sh.all (fX c.m c.o)=true:=by simpa using h6
 have:=List.all_eq_true.1 h8 x hx;unfold fX at this;rw[Bool.and_eq_true]at this;exact(a7 hE).1 this.2
theorem jQ {m o x:Bytes} (hE:gE m o=0) (vx:aa x=true) (hx:GP m o (num x)):fX m o x=true:=by
 unfold fX;rw[hE,(a7 hE).2 ⟨vx,hx⟩];rfl
theorem BW {c:CK} (k:Ke c) (lo:c.o.length≤8):lJ c.o [2]:=by
 obtain⟨-,vo,-,-,hq⟩:=fb k.e;have:=(hq k.o0).1;exact⟨vo,rfl,lo,by decide,by omega,by decide⟩
theorem wc {c:CK} (k:Ke c) (lm:c.m.length≤8) (lo:c.o.length≤8) {i:Nat} {a d:Bytes} (hi:fW c.m c.o (c.sh.getD (i-1) [])=true) (ha:fW c.m c.o a=true) (hd:fW c.m c.o d=true):z9 c.o [2] (bG c i a d):=by
 have hg:fW c.m c.o c.g=true:=(a7 k.e).2 ⟨k.vg,k.gg⟩;have ho:=k.o0;have hor:aS [(c.m,c.o)]=c.o:=by simp[aS,ho]
 refine⟨BW k lo,⟨⟨?_,?_,?_,?_,?_,?_⟩,?_,?_,?_,?_,?_,?_,?_⟩,?_⟩
 ·intro p hp;simp only[bG,List.mem_singleton]at hp;subst hp;exact⟨lm,lo⟩
 ·intro b hb;simp only[bG,List.mem_singleton]at hb;subst hb;decide
 ·intro q hq;simp only[bG,List.mem_cons,List.not_mem_nil,or_false]at hq;rcases hq with rfl|rfl<;>simp[ru]
 ·simp[bG]
 ·simp[bG]
 ·simp[bG]
 ·intro p hp;simp only[bG,List.mem_singleton]at hp;subst hp;exact⟨k.e,lm,lo⟩
 ·intro b hb;simp only[bG,List.mem_singleton]at hb;subst hb;exact⟨rfl,by decide⟩
 ·intro q hq;simp only[bG,List.mem_cons,List.not_mem_nil,or_false]at hq;rcases hq with rfl|rfl
  ·refine⟨Int.le_refl _,by simp[bG],hi,by simp,fun t ht=> ?_⟩
   simp only[List.mem_singleton]at ht;subst ht;exact⟨by simp[ru],by simp[ru,bG],hg,rfl⟩
  ·refine⟨Int.le_refl _,by simp[bG],hd,by simp,fun t ht=> ?_⟩
   simp only[List.mem_singleton]at ht;subst ht;exact⟨by simp[ru],by simp[ru,bG],ha,rfl⟩
 ·simp[bG]
 ·simp[bG]
 ·simp[bG]
 ·simp[yW,bG,hor,FJ,DX,ho]
 ·intro b hb _;show num c.o≤num (aS [(c.m,c.o)]);rw[hor];exact Nat.le_refl _
theorem wb (c:CK) (lm:c.m.length≤8) (lo:c.o.length≤8) {i:Nat} {a d:Bytes} (lg:c.g.length≤128) (li:(c.sh.getD (i-1) []).length≤128) (la:a.length≤128) (ld:d.length≤128):N2 (bG c i a d):=by
 refine⟨⟨c.m,c.o,rfl,by omega,by omega⟩,by simp[bG],by simp[bG],fun b hb=> ?_,by simp[bG],fun q hq=> ?_⟩
 ·simp only[bG,List.mem_singleton]at hb;subst hb;decide
 ·simp only[bG,List.mem_cons,List.not_mem_nil,or_false]at hq;rcases hq with rfl|rfl
  ·refine⟨Int.le_refl _,by simp,by show(c.sh.getD (i-1) []).length≤1000;omega,by simp,fun t ht=> ?_⟩
   simp only[List.mem_singleton]at ht;subst ht;exact⟨by simp[ru],by simp[ru],by show c.g.length≤1000;omega,by simp[ru]⟩
  ·refine⟨Int.le_refl _,by simp,by show d.length≤1000;omega,by simp,fun t ht=> ?_⟩
   simp only[List.mem_singleton]at ht;subst ht;exact⟨by simp[ru],by simp[ru],by show a.length≤1000;omega,by simp[ru]⟩
theorem H4 (c:CK) {i:Nat} {a d:Bytes} {x:Nat} (hx:x<18446744073709551616):WS (bG c i a d) [(x:Int)]:=by
 have hL:=jE;intro q hq;simp only[bG,List.mem_cons,List.not_mem_nil,or_false]at hq;rcases hq with rfl|rfl
 all_goals
  intro t ht;simp only[List.mem_singleton]at ht;subst ht;refine⟨by simp[ru],by simp[ru],rfl,?_,?_⟩
  ·show((x:Int)).natAbs<dt;omega
  ·show(1:Nat)*((x:Int)).natAbs<dt;omega
abbrev G1 (a b:Bytes):PV:= .agg [.s a, .s b]
def NA (i d:Nat) (vs:List Bytes) (sd:Bytes):Except Int (Bytes×List Int×Nat)→PV
 | .ok (ch,rs,j)=> .tup [.agg [E i,N d, .s ch, .sl (rs.map Zp), .sl [], .sl []],T vs sd (j:Nat),E 0]
 | .error e=> .tup [.agg [E 0, .s [], .s [], .sl [], .sl [], .sl []],T [] [] 0,E e]
theorem ni (c:CK) (ln:c.name.length≤60) (lm:c.m.length≤8) (lo:c.o.length≤8) (ls:c.sh.length≤8) (hc:ec c=0) {i:Nat} (h1:1≤i) (hi:i≤c.sh.length) {x A B:Bytes} {vs:List Bytes} {sd:Bytes} {a:Int} (hl:vs.length<1000000) (hsd:sd.length<1000000)
  (hv:[x,A,B].all aa=true) (hg:bm vs a=true) (hA:fX c.m c.o A=true) (hB:fX c.m c.o B=true) (hx:num x<num c.o) (hy:num c.g^num x%num c.m=num (c.sh.getD (i-1) [])) {d:Nat} (hd:d=num A^num x%num c.m) {R:Except Int (Bytes×List Int×Nat)} (hp:nP c.o [2] (jP c i) (bG c i A (aK d)) [(num x:Int)] vs sd a=R) (h0: ∀e,R= .error e→e≠0):
  aB Tryz.prog 21 [c.pv,E i, .s x,G1 A B,T vs sd a] (NA i d vs sd R):=by
 have k:=gR hc;have v1:=gI c ln lm lo ls;rw[hc]at v1;have v2:=iZ [x,A,B] (by simp)
 rw[hv]at v2;simp only[List.map_cons,List.map_nil]at v2;have v3:=we vs sd a hl;rw[hg]at v3;have v4:=Ak c lm lo (by omega) i (xs:=[A,B]) (by simp)
 have e4:Cl c (i:Nat) [A,B]=0:=by
  unfold Cl;rw[if_neg (by omega)]
  simp[hA,hB]
 rw[e4]at v4;simp only[List.map_cons,List.map_nil]at v4;simp only[List.all_cons,List.all_nil,Bool.and_true,Bool.and_eq_true]at hv;obtain⟨vx,vA,vB⟩:=hv;obtain⟨vm,vo,m1,-,-⟩:=fb k.e;have hqW:=cE lo;have hmW:=cE lm;have hW:=gF;have v5:=j8 vx;have hAg:fW c.m c.o A=true:=by unfold fX at hA;rw[Bool.and_eq_true]at hA;exact hA.2
 obtain⟨-,gA⟩:=(a7 k.e).1 hAg;have v6:=eX lm lo (ng:=false) k.e k.gg vx rfl;rw[dy k.vg,show bJ (num c.m) (num c.g) false (num x)=num c.g^num x%num c.m from rfl,hy]at v6
 have hj:=au ([]:Bytes) (show i-1<c.sh.length by omega)
 obtain⟨vj,gj⟩:=k.hs _ hj;rw[dy vj]at v6;have v7:=eX lm lo (ng:=false) k.e gA vx rfl;rw[dy vA,show bJ (num c.m) (num A) false (num x)=num A^num x%num c.m from rfl,←hd]at v7
 have hdl:d<num c.m:=by rw[hd];exact Nat.mod_lt _ (by omega)
 have vd:aa (aK d)=true:=vN (by omega)
 have gd:fW c.m c.o (aK d)=true:=(a7 k.e).2 ⟨vd,by rw[aG,hd];exact gA.pow _⟩
 have v8:=vZ c;have v9:=Ah c (by omega) (i:=i) (by omega)
 have w1:=Ap c h1 hi (by omega) A (aK d)
 have hS:=wc k lm lo (i:=i) (a:=A) (d:=aK d) ((a7 k.e).2 ⟨vj,gj⟩) hAg gd;have hB2:=wb c lm lo (i:=i) (a:=A) (d:=aK d) (dE k.vg) (dE vj) (dE vA) (dE vd);have hxl:(jP c i).length≤100000:=by
  have: ∀i,i<100→(Lib.decDigits i).length≤2:=by decide+kernel
  have:=this i (by omega)
  simp[jP];omega
 have w2:=Dx hS hB2 (by simp[bG]) rfl hxl (w:=[(num x:Int)]) (by simp) (fun z hz=>by simp at hz;subst hz;have:=wY (o:=x);have:=jE;omega) (fun _=>H4 c (by omega)) (vs:=vs) (sd:=sd) (a:=a) hl hsd
 rw[hp]at w2;simp only[List.map_cons,List.map_nil]at w2;rw[show Zp (num x:Int)= .agg [.b false, .s x] by show cu (gJ (num x:Int))= _;rw[uh vx];rfl]at w2
 obtain⟨r,rfl⟩: ∃r,i=r+1:=⟨i-1,by omega⟩
 rw[Nat.add_sub_cancel]at v6 hy vj;have e1:=eg (l:=c.sh) (x:=r) (by omega)
 have l1:(c.sh.map PV.s).length=c.sh.length:=List.length_map ..;have hw: ∀ _:True,IntKind.i64.wrap (((r+1:Nat):Int)-1)=(r:Int):=fun _=>by rw[IntWalk.i64_in _ (by omega)];omega
 have c1:=lW vx vo;have hcg:=L9 (num x) (num c.o);rw[decide_eq_true hx]at hcg;have hrl:r<c.sh.length:=by omega
 generalize aT (num x) (num c.o)=cm at*;generalize c.sh.getD r []=y at*;generalize jP c (r+1)=cx at*;generalize bG c (r+1) A (aK d)=S at*;clear hp hS hB2 k hy hd hc hj;obtain⟨sg,sv,se⟩:=S;obtain⟨name,m,o,g,yy,need,sh⟩:=c;simp only[CK.pv,bQ.pv]at*;rcases R with e|⟨ch,rs,j⟩
 all_goals
  first|have h0:=h0 _ rfl|skip
  simp only[O5,NA]at w2⊢;refine eW Tryz.call21 Tryz.func21 ?_;repeat' first|simp only[go_sem,seval,l1,e1,hw trivial,hcg,beq_self_eq_true,bne_self_eq_false]|refine cP v1 ?_|refine cP v2 ?_|refine cP v3 ?_|refine cP v4 ?_|refine cP v5 ?_|refine cP v6 ?_|refine cP v7 ?_|refine cP c1 ?_|refine cP v8 ?_|refine cP v9 ?_|refine cP w1 ?_|refine cP w2 ?_|refine sB ?_|(first|apply pX|apply bX)<;>intro hc|refine⟨oD,?_⟩|exact oD|fail
  all_goals rfl
theorem tF (c:CK) (ln:c.name.length≤60) (lm:c.m.length≤8) (lo:c.o.length≤8) (ls:c.sh.length≤8) (k:Ke c) {i:Nat} (h1:1≤i) (hi:i≤c.sh.length) {A B d:Bytes} (hv:[A,B,d].all aa=true) (hA:fX c.m c.o A=true) (hB:fX c.m c.o B=true) (hd:fX c.m c.o d=true) {ch:Bytes} {rs:List (Bool×Bytes)} {gs:List Bytes} {ls':List (List (Bool×Bytes))} (n1:rs.length<1000000) (n2:gs.length≤1000) (n3:ls'.length≤1000) (n4: ∀l∈ls',l.length<4611686018427387904):
  aB Tryz.prog 68 [c.pv,G1 A B, .agg [E i, .s d, .s ch, .sl (rs.map cu), .sl (gs.map .s), .sl (ls'.map A1)]] (E (u7 c.o [2] (jP c i) (bG c i A d) ch rs gs ls')):=by
 have v2:=iZ [A,B,d] (by simp)
 rw[hv]at v2;simp only[List.map_cons,List.map_nil]at v2;have v4:=Ak c lm lo (by omega) i (xs:=[A,B,d]) (by simp)
 have e4:Cl c (i:Nat) [A,B,d]=0:=by
  unfold Cl;rw[if_neg (by omega)]
  simp[hA,hB,hd]
 rw[e4]at v4;simp only[List.map_cons,List.map_nil]at v4;simp only[List.all_cons,List.all_nil,Bool.and_true,Bool.and_eq_true]at hv;obtain⟨vA,vB,vd⟩:=hv;have hAg:fW c.m c.o A=true:=by unfold fX at hA;rw[Bool.and_eq_true]at hA;exact hA.2
 have hdg:fW c.m c.o d=true:=by unfold fX at hd;rw[Bool.and_eq_true]at hd;exact hd.2
 have hj:=au ([]:Bytes) (show i-1<c.sh.length by omega)
 obtain⟨vj,gj⟩:=k.hs _ hj;have v8:=vZ c;have v9:=Ah c (by omega) (i:=i) (by omega)
 have w1:=Ap c h1 hi (by omega) A d
 have hS:=wc k lm lo (i:=i) (a:=A) (d:=d) ((a7 k.e).2 ⟨vj,gj⟩) hAg hdg;have hB2:=wb c lm lo (i:=i) (a:=A) (d:=d) (dE k.vg) (dE vj) (dE vA) (dE vd);have hxl:(jP c i).length≤100000:=by
  have: ∀i,i<100→(Lib.decDigits i).length≤2:=by decide+kernel
  have:=this i (by omega)
  simp[jP];omega
 have w2:=EC hS hB2 (by simp[bG]) hxl (ch:=ch) (rs:=rs) (gs:=gs) (ls:=ls') n1 n2 n3 n4
 generalize u7 c.o [2] (jP c i) (bG c i A d) ch rs gs ls'=E0 at*;generalize jP c i=cx at*;generalize bG c i A d=S at*;clear hS hB2 k hj;obtain⟨sg,sv,se⟩:=S;obtain⟨name,m,o,g,yy,need,sh⟩:=c;simp only[CK.pv,bQ.pv,C5]at*;refine eW Tryz.call68 Tryz.func68 ?_;repeat' first|simp only[go_sem,seval]|refine cP v2 ?_|refine cP v4 ?_|refine cP v8 ?_|refine cP v9 ?_|refine cP w1 ?_|refine cP w2 ?_|refine sB ?_|(first|apply pX|apply bX)<;>intro hc|refine⟨oD,?_⟩|exact oD|fail
 all_goals rfl
end Go.Proofs.YtmobkhegihemeaaGreatDoor
