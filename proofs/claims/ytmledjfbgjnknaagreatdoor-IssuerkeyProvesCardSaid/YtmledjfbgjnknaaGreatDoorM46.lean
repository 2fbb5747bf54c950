/-
  Part of the proof, part 46. Own work.
-/
import Derived.Test.YtmledjfbgjnknaaGreatDoorM44
import Derived.Test.YtmledjfbgjnknaaGreatDoorM45
set_option linter.all false
namespace Go.Proofs.YtmledjfbgjnknaaGreatDoor
open Go Go.Dom Go.Num
set_option maxRecDepth 100000
set_option maxHeartbeats 16000000
theorem rCommit16_ok {c sl:Bytes} (hr:RuOK c sl) {s:Stm} (hs:StOK s) (h0:s.vars≠[]) (h00:s.eqs≠[]) (ho:OneS s) {vs:List Bytes} {sd:Bytes} {i:Nat} (hv:vs.all validN=true) (hi:i≤2147483647) (hl:vs.length<1000000) (hsd:sd.length<1000000):
  EvP Tryz.prog 73 [.agg [.s c, .s sl],s.pv,T vs sd i] (commP s vs sd (i+s.vars.length) (maskG vs sd (s.vars.map (limM c sl)) i [])):=by
 have hbo:=r16Bounds_ok hr hs h0;have hb:=hs.v;have nv:=hs.nv;have hIm:=fun ms hR=>by
  have hf:=maskG_facts hr hs.v hv hi hl (ms:=ms) (sd:=sd) hR;have hm:=rImages_ok hs h00 ho (w:=ms.map ipz) (by rw[List.length_map];omega)
  rw[List.all_eq_true.2 hf.2.2.2,List.length_map,hf.1]at hm;simp only[Bool.true_and,decide_true,if_true,Bool.not_true,Bool.false_eq_true,if_false,ne_eq,not_true_eq_false,List.map_map]at hm;have hZ:(ipv∘ipz)=Zp:=rfl;rw[hZ]at hm;exact hm
 have hIL:=fun ms=>(rfl:imgL s (List.map ipz ms)=imgL s (List.map ipz ms))
 obtain⟨F,hF⟩: ∃F:List Int→List Bytes,F=fun ms=>imgL s (ms.map ipz):=⟨_,rfl⟩
 have hcP: ∀j R,commP s vs sd j R=match R with| .ok ms=> .tup [.sl (ms.map Zp), .sl ((F ms).map .s),T vs sd j,E 0]| .error e=> .tup [.sl [], .sl [],T [] [] 0,E e]:=fun j R=>by rw[hF];cases R<;>rfl
 have hIm: ∀ms,maskG vs sd (s.vars.map (limM c sl)) i []= .ok ms→EvP Tryz.prog 166 [s.pv, .sl (ms.map Zp)] (.tup [.sl ((F ms).map .s),E 0]):=fun ms h=>by rw[hF];exact hIm ms h
 rw[hcP];clear hcP hF hIL ho h00;obtain⟨gs,us,es⟩:=s;simp only at hb nv h0 hIm;have hpos:0<us.length:=List.length_pos_iff.2 h0;have l2:(us.map vpv).length=us.length:=List.length_map ..;have l3:(us.map fun b=>N (limM c sl b)).length=us.length:=List.length_map ..
 obtain⟨R0,hR0⟩: ∃R0,R0=maskG vs sd ((us.drop 0).map (limM c sl)) i []:=⟨_,rfl⟩;simp only[show us.map (limM c sl)=(us.drop 0).map (limM c sl)from rfl,←hR0]at hIm⊢
 clear hs;simp only[Stm.pv]at hbo hIm⊢;refine eW Tryz.call73 Tryz.func73 ?_;repeat' first|simp only[go_sem,seval,l2]|refine cP hbo ?_|refine sB ?_|(first|apply pX|apply bX)<;>intro hc|refine⟨oD,?_⟩|exact oD|fail
 refine loop_unroll' ?_;have e1:=getD_map vpv us [] hpos;have e2:=getD_map (fun b=>N (limM c sl b)) us [] hpos
 obtain⟨k1,k2,k3⟩:=hb _ (mem_getD [] hpos);have hbb:(us.getD 0 []==[])=false:=by simpa using k2
 have hm:=limM_ok hr k1 k2 k3;have hg:=fun hi=>rSigned_ok (vs:=vs) (sd:=sd) (i:=i) hv hi hl hsd hm.1 hm.2
 rw[drop_getD [] hpos,List.map_cons,maskG]at hR0;have hm1:=hm.1;have hm2:2*limM c sl (us.getD 0 [])<LIM:=by have:=hm.2;omega
 clear hm k1 k2 k3;generalize us.getD 0 []=u at*;simp only[vpv]at e1;generalize limM c sl u=M at*;have hg:=hg hi
 cases hsg:signO vs sd i M with
 |error e=>
  rw[hsg]at hg hR0;simp only[signP]at hg hR0;have he:(e !=0)=true:=by rcases signO_err hsg with rfl|rfl<;>rfl
  subst hR0;clear hIm;repeat' first|simp only[go_sem,seval,l2,l3,e1,e2,he,hbb]|refine cP hg ?_|refine sB ?_|(first|apply pX|apply bX)<;>intro hc|refine⟨oD,?_⟩|exact oD|fail
  all_goals rfl
 |ok z=>
  have hsi:i+(0+1)≤2147483647:=(signO_ok hv hm1 hm2 hl hi hsg).2;rw[hsg]at hg hR0;simp only[signP]at hg hR0;repeat' first|simp only[go_sem,seval,l2,l3,e1,e2,hbb]|refine cP hg ?_|refine sB ?_|(first|apply pX|apply bX)<;>intro hc|refine⟨oD,?_⟩|exact oD|fail
  clear e1 e2 hg hbb;refine loop_run (α:=(Nat×List Int)⊕List Int) (fun p=>match p with| .inl p=>us.length-p.1| .inr _=>0) (fun p=>match p with| .inl p=>⟨[(4, .p 1001 0 0),(5, .p 1002 0 0),(8, .p 1005 0 0),(10, .v (.sl (us.map fun b=>N (limM c sl b)))),(13, .rs 1055 p.1 0 (p.1+1) 2),(14,E' (p.1+1))],[(1001,⟨0,[.v (.sl (gs.map gpv)), .v (.sl (us.map vpv)), .v (.sl (es.map Eqn.pv))],false,none⟩),(1002,⟨0,[.v (.sl (vs.map .s)), .v (.s sd), .v (.i .i64 ((i+(p.1+1):Nat):Int))],false,none⟩),(1005,⟨0,[.sn, .v (.s []), .v (.i .i64 0)],false,some 35⟩),(1055,⟨p.1,rowF Zp p.2,true,some 53⟩)],1060⟩| .inr ms=>⟨(13, .v (.sl (ms.map Zp)))::[(4, .p 1001 0 0),(5, .p 1002 0 0),(8, .p 1005 0 0),(10, .v (.sl (us.map fun b=>N (limM c sl b)))),(14,E' us.length)],[(1001,⟨0,[.v (.sl (gs.map gpv)), .v (.sl (us.map vpv)), .v (.sl (es.map Eqn.pv))],false,none⟩),(1002,⟨0,[.v (.sl (vs.map .s)), .v (.s sd), .v (.i .i64 ((i+us.length:Nat):Int))],false,none⟩),(1005,⟨0,[.sn, .v (.s []), .v (.i .i64 0)],false,some 35⟩)],1060⟩) (fun p=>match p with| .inl p=>p.1+1<us.length∧p.2.length=p.1+1∧i+(p.1+1)≤2147483647∧R0=maskG vs sd ((us.drop (p.1+1)).map (limM c sl)) (i+(p.1+1)) p.2| .inr ms=>R0= .ok ms) (if 1<us.length then .inl (0,[z])else .inr [z]) (fun p=>by cases p<;>exact Nat.le_of_ble_eq_true rfl) ?_ ?_ ?_
  ·by_cases h:1<us.length
   ·rw[if_pos h];exact⟨h,rfl,hsi,hR0⟩
   ·rw[if_neg h];rw[List.drop_of_length_le (by omega)]at hR0
    exact hR0
  ·by_cases h:1<us.length
   ·rw[if_pos h]
    (refine AS.Le.of (by first|decide|omega) ?_ ?_<;>simp[LeT,LeH,tget,hget,AV.bd,AV.bd.bdL,u8,bd_cellsOf,bcells_bd,icells_bd])
    all_goals exact⟨rfl,fun c hc=>bd_row hc⟩
   ·rw[if_neg h];have h1:us.length=1:=by omega
    refine leZ zRow (m:=1055) (ver:=0) (len:=1) (gr:=true) (el:=some 53) (l:=[z]) rfl rfl rfl ?_ ?_
    ·simp[LeT,tget,AV.bd,h1]
    ·simp[LeH,hget,AV.bd,h1]
  ·rintro(⟨j,ms⟩|ms) hok R hR
   ·obtain⟨hj,hlm,hij,hR0⟩:=hok;simp only at hj hlm hij hR0;have q1:=rowF_len zRow ms;have q2:=rowF_take zRow ms;rw[hlm]at q1 q2;have e1:=getD_map vpv us [] hj;have e2:=getD_map (fun b=>N (limM c sl b)) us [] hj
    obtain⟨k1,k2,k3⟩:=hb _ (mem_getD [] hj);have hbb:(us.getD (j+1) []==[])=false:=by simpa using k2
    have hm:=limM_ok hr k1 k2 k3;have hg:=fun hi=>rSigned_ok (vs:=vs) (sd:=sd) (i:=(i+(j+1))) hv hi hl hsd hm.1 hm.2
    rw[drop_getD [] hj,List.map_cons,maskG]at hR0;have hm1:=hm.1;have hm2:2*limM c sl (us.getD (j+1) [])<LIM:=by have:=hm.2;omega
    clear hm k1 k2 k3;generalize us.getD (j+1) []=u at*;simp only[vpv]at e1;generalize limM c sl u=M at*;have hg:=hg hij
    cases hsg:signO vs sd (i+(j+1)) M with
    |error e=>
     rw[hsg]at hg hR0;simp only[signP]at hg hR0;have he:(e !=0)=true:=by rcases signO_err hsg with rfl|rfl<;>rfl
     subst hR0;clear hR hIm;repeat' first|simp only[go_sem,seval,l2,l3,e1,e2,he,q1,q2,hbb]|refine cP hg ?_|refine sB ?_|(first|apply pX|apply bX)<;>intro hc|refine⟨oD,?_⟩|exact oD|fail
     all_goals rfl
    |ok y=>
     have hsi:i+(j+1+1)≤2147483647:=(signO_ok hv hm1 hm2 hl hij hsg).2;rw[hsg]at hg hR0;simp only[signP]at hg hR0
     by_cases hlt:j+1+1<us.length
     ·have hgo:=hR (.inl (j+1,ms++[y])) ⟨hlt,by simp[hlm],hsi,hR0⟩ (by simp only;omega)
      simp only[zs_snoc]at hgo;clear hR;repeat' first|simp only[go_sem,seval,l2,l3,e1,e2,q1,q2,hbb]|refine cP hg ?_|refine sB ?_|(first|apply pX|apply bX)<;>intro hc|refine⟨oD,?_⟩|exact oD|fail
      refine hgo _ ?_
      (refine AS.Le.of (by first|decide|omega) ?_ ?_<;>simp[LeT,LeH,tget,hget,AV.bd,AV.bd.bdL,u8,bd_cellsOf,bcells_bd,icells_bd])
      all_goals exact⟨by omega,fun c hc=>by rcases hc with hc|rfl|rfl<;>first|exact bd_row hc|rfl⟩
     ·rw[List.drop_of_length_le (by omega)]at hR0
      have hgo:=hR (.inr (ms++[y])) hR0 (by simp only;omega)
      clear hR;repeat' first|simp only[go_sem,seval,l2,l3,e1,e2,q1,q2,hbb]|refine cP hg ?_|refine sB ?_|(first|apply pX|apply bX)<;>intro hc|refine⟨oD,?_⟩|exact oD|fail
      refine hgo _ ?_;have h1:us.length=j+1+1:=by omega
      refine leZ zRow (m:=1055) (ver:=j+1) (len:=j+1+1) (gr:=true) (el:=some 53) (l:=ms++[y]) rfl (by simp[hget,zs_snoc]) (by simp[hlm]) ?_ ?_
      ·simp[LeT,tget,AV.bd,h1]
      ·simp[LeH,hget,AV.bd,h1]
       try omega
   ·have hR0:R0= .ok ms:=hok;subst hR0;have hIm:=hIm ms rfl;clear hR;repeat' first|simp only[go_sem,seval,l2]|refine cP hIm ?_|refine sB ?_|(first|apply pX|apply bX)<;>intro hc|refine⟨oD,?_⟩|exact oD|fail
    all_goals rfl
theorem rProve22_ok {c sl:Bytes} (hr:RuOK c sl) {s:Stm} (hs:StOK s) (h0:s.vars≠[]) (h00:s.eqs≠[]) (ho:OneS s) (hbd:BdS s) {m:Bytes} (hg1:s.groups=[(m,[])]) (hmI: ∀w,∀x∈imgL s w,x.length≤8∧validN x=true) {ctx:Bytes} (hx:ctx.length≤100000) {w:List Int} (hw6:w.length<1000000) {vs:List Bytes} {sd:Bytes} {a:Int} (hl:vs.length<1000000) (hsd:sd.length<1000000):
  EvP Tryz.prog 27 [.agg [.s c, .s sl], .s ctx,s.pv, .sl (w.map Zp),C0, .sl [],T vs sd a] (prvP vs sd (prvG c sl ctx s w vs sd a)):=by
 have hn:=rSetting_ok hr hs h0;have hZ: ∀l:List Int,(l.map ipz).map ipv=l.map Zp:=fun l=>by rw[List.map_map];rfl
 have hv1:=rInts22_ok (w.map ipz) (by rw[List.length_map];omega)
 rw[hZ]at hv1;have hgd:=rGood_ok vs sd a hl;have hh:=rHolds_ok hs h00 ho hg1 (w:=w.map ipz);rw[hZ,List.length_map]at hh;have nv:=hs.nv;have hv:=hs.v;have l5:(w.map Zp).length=w.length:=List.length_map ..;have hCo:=fun(g1:vs.all validN=true) (i:Nat) (hi:i≤2147483647)=>rCommit16_ok hr hs h0 h00 ho (vs:=vs) (sd:=sd) (i:=i) g1 hi hl hsd
 have hRe:=fun(f3:w.length=s.vars.length) (ms:List Int) (ch:Nat)=>rRespond_ok hr hs h0 (w:=w) (ms:=ms) (ch:=ch) f3
 have hMf:=fun(g1:vs.all validN=true) (i:Nat) (hi:i≤2147483647) (ms:List Int)=>maskG_facts hr hs.v (sd:=sd) (i:=i) g1 hi hl (ms:=ms)
 have hCh:=fun(fs:List Bytes)=>rChallenge22_ok hr hs hbd hx (fs:=fs)
 have hB:=fun(g1:vs.all validN=true) (i:Nat) (hi:i≤2147483647)=>rCommit21_0 (vs:=vs) (a:=i) sd (goodT_of g1 hi) hl
 have hii: ∀ms:List Int,imgL s (ms.map ipz)≠[]∧(imgL s (ms.map ipz)).length=s.eqs.length:=fun ms=>by
  have:=imgL_len s (ms.map ipz);exact⟨fun h=>h00 (List.length_eq_zero_iff.1 (by rw[←this,h];rfl)),this⟩
 unfold prvG witE;obtain⟨gs,us,es⟩:=s;simp only at hg1;subst hg1;simp only at nv hv hh hRe hii;simp only[Stm.pv,List.map_cons,List.map_nil,gpv]at hn hh hCo hRe hCh⊢;have l2:(us.map vpv).length=us.length:=List.length_map ..;have hor:=r15Order0 m us es;simp only[Stm.pv,List.map_cons,List.map_nil,gpv]at hor
 by_cases h1:(w.map ipz).all izok=true
 ·rw[h1]at hv1⊢;have hall:=List.all_eq_true.1 h1;simp only[Bool.not_true,Bool.false_eq_true,if_false]
  cases hg:goodT vs a with
  |false=>
   rw[hg]at hgd;clear hCo hRe hMf hCh hB hii hh;simp only[Bool.not_false,if_true,ne_eq,show¬(3:Int)=0 by decide,not_false_eq_true]
   refine eW Tryz.call27 Tryz.func27 ?_;repeat' first|simp only[go_sem,seval]|refine cP hn ?_|refine cP hv1 ?_|refine cP hgd ?_|(refine loop_unroll' ?_)|refine sB ?_|(first|apply pX|apply bX)<;>intro hc|refine⟨oD,?_⟩|exact oD|fail
   all_goals rfl
  |true=>
   rw[hg]at hgd;obtain⟨g1,g2,g3⟩:=goodT_ok hg;obtain⟨i0,rfl⟩: ∃i:Nat,a=i:=⟨a.toNat,by omega⟩
   simp only[Bool.not_true,Bool.false_eq_true,if_false,Int.toNat_natCast];have hCo:=hCo g1;have hMf:=hMf g1;have hB:=hB g1
   by_cases hwl:w.length=us.length
   ·rw[if_neg (show¬(w.map ipz).length≠us.length by rw[List.length_map];simpa using hwl)]
    have hh:=hh hwl hall;have hRe:=hRe hwl;have hI: ∀ _:True,((w.length:Int) !=us.length)=false:=fun _=>by rw[hwl];simp
    refine eW Tryz.call27 Tryz.func27 ?_;repeat' first|simp only[go_sem,seval,l2,l5,hI trivial]|refine cP hn ?_|refine cP hv1 ?_|refine cP hgd ?_|refine sB ?_|(first|apply pX|apply bX)<;>intro hc|refine⟨oD,?_⟩|exact oD|fail
    refine loop_unroll' ?_;repeat' first|simp only[go_sem,seval,l2,l5,hI trivial]|refine sB ?_|(first|apply pX|apply bX)<;>intro hc|refine⟨oD,?_⟩|exact oD|fail
    refine loop_run (α:=Nat) (fun i=>us.length-i) (fun i=>⟨[(1, .v (.s ctx)),(3, .v (.sl (w.map Zp))),(5, .v (.sl [])),(7, .p 1000 0 0),(9, .p 1001 0 0),(11, .p 1002 0 0),(13, .p 1003 0 0),(14, .p 1004 0 0),(15, .p 1005 0 0),(17, .p 1009 0 0),(18, .p 1010 0 0),(22,E' i)],[(1000,⟨0,[.v (.s c), .v (.s sl)],false,none⟩),(1001,⟨0,[.v (.sl [G m []]), .v (.sl (us.map vpv)), .v (.sl (es.map Eqn.pv))],false,none⟩),(1002,⟨0,[.v (.sl []), .v (.sl [])],false,none⟩),(1003,⟨0,[.v (.sl (vs.map .s)), .v (.s sd), .v (.i .i64 ((i0:Nat):Int))],false,none⟩),(1004,⟨0,[.v (.s []), .sn, .sn, .sn],false,some 45⟩),(1005,⟨0,[.sn, .v (.s []), .v (.i .i64 0)],false,some 35⟩),(1009,⟨0,[.v (.s []), .sn, .sn, .sn],false,some 45⟩),(1010,⟨0,[.sn, .v (.s []), .v (.i .i64 0)],false,some 35⟩)],_⟩) (fun i=>i≤us.length∧ ∀j,j<i→num ((w.map ipz).getD j d0I).2<num (us.getD j [])) 0 (fun _=>Nat.le_refl _) ⟨Nat.zero_le _,fun j hj=>by omega⟩ ?_ ?_
    ·exact lE
    ·rintro i ⟨hi,hlts⟩ R hR
     by_cases hlt:i<us.length
     ·have e1:=getD_map vpv us [] hlt;have e2:=getD_map Zp w 0 (i:=i) (by omega)
      obtain⟨b1,b2,-⟩:=hv _ (mem_getD [] hlt);have kw:=hall _ (List.mem_map_of_mem (f:=ipz) (mem_getD 0 (show i<w.length by omega)))
      have hgo:=fun h=>hR (i+1) ⟨by omega,h⟩ (by omega)
      have hbad:=fun h: ¬num ((w.map ipz).getD i d0I).2<num (us.getD i [])=>all_bad (p:=fun i=>decide (num ((w.map ipz).getD i d0I).2<num (us.getD i []))) hlt (decide_eq_false h)
      have hnx:num ((w.map ipz).getD i d0I).2<num (us.getD i [])→ ∀j,j<i+1→num ((w.map ipz).getD j d0I).2<num (us.getD j []):=fun h j hj=>by
       by_cases hji:j<i
       ·exact hlts j hji
       ·obtain rfl:j=i:=by omega
        exact h
      rw[←inW]at hbad;rw[getD_ipz _ _ (by omega)]at hbad hnx
      clear hR hlts hall hh hCo hRe hMf hCh hB hii;generalize us.getD i []=b at*;generalize w.getD i 0=x at*;simp only[izok,ipz,Bool.and_eq_true]at kw hbad hnx;have hc:=rInRange_ok b1 b2 [] (n:=zs x) kw.1;simp only[vpv]at e1 hc;simp only[Zp,ipv,ipz]at e2
      by_cases hlt2:num (zb x)<num b
      ·have hgo:=hgo (hnx hlt2);rw[decide_eq_true hlt2]at hc;repeat' first|simp only[go_sem,seval,l2,l5,e1,e2]|refine cP hor ?_|refine cP hc ?_|refine sB ?_|(first|apply pX|apply bX)<;>intro hc|refine⟨oD,?_⟩|exact oD|fail
       refine hgo _ ?_;exact lE
      ·rw[hbad hlt2];simp only[Bool.not_false,if_true,ne_eq,show¬(2:Int)=0 by decide,not_false_eq_true]
       rw[decide_eq_false hlt2]at hc;repeat' first|simp only[go_sem,seval,l2,l5,e1,e2]|refine cP hor ?_|refine cP hc ?_|refine sB ?_|(first|apply pX|apply bX)<;>intro hc|refine⟨oD,?_⟩|exact oD|fail
       all_goals rfl
     ·obtain rfl:i=us.length:=by omega
      have hg:inW us (w.map ipz)=true:=all_good fun j hj=>decide_eq_true (hlts j hj)
      rw[hg,Bool.true_and]at hh;rw[hg];simp only[Bool.not_true,Bool.false_eq_true,if_false];clear hR hlts
      cases hq:holdB ⟨[(m,[])],us,es⟩ (w.map ipz)with
      |false=>
       rw[hq]at hh;simp only[Bool.not_false,if_true,ne_eq,show¬(18:Int)=0 by decide,not_false_eq_true]
       clear hCo hRe hMf hCh hB hii;repeat' first|simp only[go_sem,seval,l5,hwl]|refine cP hh ?_|(refine loop_unroll' ?_)|refine sB ?_|(first|apply pX|apply bX)<;>intro hc|refine⟨oD,?_⟩|exact oD|fail
       all_goals rfl
      |true=>
       rw[hq]at hh;simp only[Bool.not_true,Bool.false_eq_true,if_false,ne_eq,not_true_eq_false];obtain⟨R0,hR0⟩: ∃R0,R0=tryG c sl ctx ⟨[(m,[])],us,es⟩ w vs sd 64 i0:=⟨_,rfl⟩;rw[←hR0];repeat' first|simp only[go_sem,seval,l5,hwl]|refine cP hh ?_|refine sB ?_|(first|apply pX|apply bX)<;>intro hc|refine⟨oD,?_⟩|exact oD|fail
       refine loop_unroll' ?_;repeat' first|simp only[go_sem,seval,l5,hwl]|refine cV rHolds0 ?_|refine sB ?_|(first|apply pX|apply bX)<;>intro hc|refine⟨oD,?_⟩|exact oD|fail
       refine loop_run (α:=Nat×Nat) (fun p=>64-p.1) (fun p=>⟨[(1, .v (.s ctx)),(3, .v (.sl (w.map Zp))),(5, .v (.sl [])),(7, .p 1000 0 0),(9, .p 1001 0 0),(11, .p 1002 0 0),(13, .p 1003 0 0),(14, .p 1004 0 0),(15, .p 1005 0 0),(17, .p 1009 0 0),(18, .p 1010 0 0),(29,E' p.1)],[(1000,⟨0,[.v (.s c), .v (.s sl)],false,none⟩),(1001,⟨0,[.v (.sl [G m []]), .v (.sl (us.map vpv)), .v (.sl (es.map Eqn.pv))],false,none⟩),(1002,⟨0,[.v (.sl []), .v (.sl [])],false,none⟩),(1003,⟨0,[.v (.sl (vs.map .s)), .v (.s sd), .v (.i .i64 ((p.2:Nat):Int))],false,none⟩),(1004,⟨0,[.v (.s []), .sn, .sn, .sn],false,some 45⟩),(1005,⟨0,[.sn, .v (.s []), .v (.i .i64 0)],false,some 35⟩),(1009,⟨0,[.v (.s []), .sn, .sn, .sn],false,some 45⟩),(1010,⟨0,[.sn, .v (.s []), .v (.i .i64 0)],false,some 35⟩)],_⟩) (fun p=>p.1≤64∧p.2≤2147483647∧R0=tryG c sl ctx ⟨[(m,[])],us,es⟩ w vs sd (64-p.1) p.2) (0,i0) (fun _=>Nat.le_refl _) ⟨Nat.zero_le _,by omega,hR0⟩ ?_ ?_
       ·exact lE
       ·clear hn hv1 hgd hh hR0;rintro⟨k,i⟩ ⟨hk,hi,hR0⟩ R hR;simp only at hk hi hR0
        by_cases hlt:k<64
        ·obtain⟨q,hq⟩: ∃q,64-k=q+1:=⟨63-k,by omega⟩
         rw[hq,tryG]at hR0;have hCo:=hCo i hi
         cases hM:maskG vs sd (us.map (limM c sl)) i []with
         |error e=>
          simp only[hM]at hR0 hCo;subst hR0;have he:(e !=0)=true:=by rcases maskG_err hM with rfl|rfl<;>rfl
          simp only[commP]at hCo;clear hR hRe hMf hCh hB hii;repeat' first|simp only[go_sem,seval,he]|refine cP hCo ?_|refine sB ?_|(first|apply pX|apply bX)<;>intro hc|refine⟨oD,?_⟩|exact oD|fail
          all_goals rfl
         |ok ms=>
          simp only[hM]at hR0 hCo;simp only[commP]at hCo;obtain⟨m1,m2,m3,m4⟩:=hMf i hi ms hM;have hii:=hii ms;have hCh:=hCh (imgL ⟨[(m,[])],us,es⟩ (ms.map ipz)) hii.1 hii.2 (fun x hx=>(hmI _ x hx).1) (List.all_eq_true.2 fun x hx=>(hmI _ x hx).2)
          have hlc:=trChal_lt (fsS ctx ⟨[(m,[])],us,es⟩ (imgL ⟨[(m,[])],us,es⟩ (ms.map ipz))) hr.c2;have hRe:=hRe ms _ m1 hlc hg hall m4 m2;generalize trChal (fsS ctx ⟨[(m,[])],us,es⟩ (imgL ⟨[(m,[])],us,es⟩ (ms.map ipz))) c=z at*;have hB:=hB (i+us.length) m3;generalize imgL ⟨[(m,[])],us,es⟩ (ms.map ipz)=L at*;unfold respP at hRe
          by_cases hin:inR c sl us (respZ ms w z)=true
          ·rw[if_pos hin]at hR0 hRe;subst hR0;generalize respZ ms w z=rs at*;clear hR hMf m2 m4 hmI hM hall;repeat' first|simp only[go_sem,seval]|refine cP hCo ?_|refine cP hB ?_|refine cP hCh ?_|refine cP hRe ?_|refine sB ?_|(first|apply pX|apply bX)<;>intro hc|refine⟨oD,?_⟩|exact oD|fail
           all_goals rfl
          ·rw[if_neg hin]at hR0 hRe;have hgo:=hR (k+1,i+us.length) ⟨by omega,m3,by rw[show 64-(k+1)=q by omega];exact hR0⟩ (by simp only;omega)
           clear hR hMf m2 m4 hmI hM hall;repeat' first|simp only[go_sem,seval]|refine cP hCo ?_|refine cP hB ?_|refine cP hCh ?_|refine cP hRe ?_|refine sB ?_|(first|apply pX|apply bX)<;>intro hc|refine⟨oD,?_⟩|exact oD|fail
           refine hgo _ ?_;exact lE
        ·obtain rfl:k=64:=by omega
         simp only[Nat.sub_self,tryG]at hR0;subst hR0;clear hR hRe hCh hCo hMf hB hii;repeat' first|simp only[go_sem,seval]|refine sB ?_|(first|apply pX|apply bX)<;>intro hc|refine⟨oD,?_⟩|exact oD|fail
         all_goals rfl
   ·rw[if_pos (show(w.map ipz).length≠us.length by rw[List.length_map];exact hwl)]
    clear hCo hRe hMf hCh hB hii hh;simp only[ne_eq,show¬(6:Int)=0 by decide,not_false_eq_true,if_true]
    have e6:((w.length:Int) !=us.length)=true:=by rw[bne_iff_ne];omega
    refine eW Tryz.call27 Tryz.func27 ?_;repeat' first|simp only[go_sem,seval,l2,l5,e6]|refine cP hn ?_|refine cP hv1 ?_|refine cP hgd ?_|(refine loop_unroll' ?_)|refine sB ?_|(first|apply pX|apply bX)<;>intro hc|refine⟨oD,?_⟩|exact oD|fail
    all_goals rfl
 ·have h1:(w.map ipz).all izok=false:=Bool.eq_false_iff.2 h1;rw[h1]at hv1⊢;clear hCo hRe hMf hCh hB hii hh;simp only[Bool.not_false,if_true,ne_eq,show¬(3:Int)=0 by decide,not_false_eq_true]
  refine eW Tryz.call27 Tryz.func27 ?_;repeat' first|simp only[go_sem,seval]|refine cP hn ?_|refine cP hv1 ?_|(refine loop_unroll' ?_)|refine sB ?_|(first|apply pX|apply bX)<;>intro hc|refine⟨oD,?_⟩|exact oD|fail
  all_goals rfl
def lz (b:Bytes):PV:=ipv (false,b)
theorem lzRow:RowOK lz 2:=⟨fun _=>rfl,fun x y hy=>by simp[lz,ipv,PV.cells]at hy;rcases hy with rfl|rfl<;>rfl,fun h=>by omega,fun _ x=>rfl⟩
theorem lz_snoc (l:List Bytes) (x:Bytes):rowF lz (l++[x])=rowF lz l++[.v (.b false), .v (.s x)]:=by rw[rowF_snoc];rfl
def logZ (logs:List Bytes):List Int:=logs.map fun x=>(num x:Int)
theorem logZ_lz {logs:List Bytes} (h:logs.all validN=true):(logZ logs).map Zp=logs.map lz:=by
 unfold logZ;rw[List.map_map];refine List.map_congr_left fun x hx=> ?_
 show ipv (ipz (num x:Int))= _;rw[ipz_nat (List.all_eq_true.1 h x hx)];rfl
def kctx (k:Key):Bytes:=[105,115,115,117,101,114,32,107,101,121,32]++k.name
noncomputable def prvK (p:Par) (k:Key) (logs vs:List Bytes) (sd:Bytes) (a:Int):Except Int (Bytes×List Int×Nat):=
 if keyE (parE p) k≠0 then .error (keyE (parE p) k)else if !(logs.all validN)then .error 3 else prvG p.c p.sl (kctx k) (keyS k) (logZ logs) vs sd a
theorem oneS_key (k:Key):OneS (keyS k):=⟨by simp[keyS],fun i hi=>by
 have hi:i<(keyT k).length:=by simpa[keyS]using hi
 refine⟨k.s,?_⟩;simp[keyS,List.getD_eq_getElem?_getD,hi,keyQ,tm1]⟩
theorem imgL_key {k:Key} (lm:k.m.length≤8) (h:KeyF k) (w:List (Bool×Bytes)): ∀x∈imgL (keyS k) w,x.length≤8∧validN x=true:=by
 intro x hx;have hg:=h.gd;simp only[goodB,Bool.and_eq_true,decide_eq_true_eq]at hg;have m8:=hg.2;have hmn:=num8 lm;simp only[imgL,List.mem_mapIdx]at hx;obtain⟨i,hi,rfl⟩:=hx;have hi:i<(keyT k).length:=by simpa[keyS]using hi
 have hlt:imgQ (keyS k).groups w i ((keyS k).eqs[i]'(by simpa[keyS]using hi))<num k.m:=by
  simp only[imgQ,keyS,List.getElem_mapIdx,keyQ];exact Nat.mod_lt _ (by show 0<num k.m;omega)
 exact⟨bts_len.2 (by omega),vN (by omega)⟩
theorem kProve_ok {p:Par} {k:Key} (hp:p.short) (lm:k.m.length≤8) (ln:k.name.length≤60) (lr:k.r.length≤20) {logs vs:List Bytes} {sd:Bytes} {a:Int} (hlog:logs.length<1000000) (hl:vs.length<1000000) (hsd:sd.length<1000000):
  EvP Tryz.prog 9 [p.pv,k.pv, .sl (logs.map .s),T vs sd a] (prvP vs sd (prvK p k logs vs sd a)):=by
 have hck:=keyCheck_ok p k _ (pCheck_ok p hp) lm ln lr;unfold prvK
 by_cases h0:keyE (parE p) k=0
 ·rw[if_neg (by simpa using h0)]
  rw[h0]at hck;obtain⟨hpe,hkf⟩:=keyF_of h0;obtain⟨k1,k2,k3,k4,k5⟩:=key_facts lm hkf;have hv0:(keyS k).vars≠[]:=k3.v0;have hgr:(keyS k).groups=[(k.m,[])]:=by rw[←hkf.o];rfl
  have hlz:=fun h:logs.all validN=true=>logZ_lz h
  have hpv:=Prove22_ok (ruOK_of hp hpe) k1 hv0 k4 (oneS_key k) k3 hgr (imgL_key lm hkf) (ctx:=kctx k) (by simp[kctx];omega) (w:=logZ logs) (by simp[logZ];omega) (vs:=vs) (sd:=sd) (a:=a) hl hsd
  have hst:=statement_ok k lr;have hcx:=context_ok k ln;rw[←kctx]at hcx;generalize prvG p.c p.sl (kctx k) (keyS k) (logZ logs) vs sd a=RR at*;have hcut:kctx k=[105,115,115,117,101,114,32,107,101,121,32]++k.name:=rfl;generalize kctx k=cx at*;generalize keyS k=S at*;clear k1 k2 k3 k4 k5 hkf h0 hpe hv0 hgr;obtain⟨sg,sv,se⟩:=S;have l1:(logs.map PV.s).length=logs.length:=List.length_map ..;unfold Par.pv Key.pv Stm.pv at*
  by_cases hlg:logs=[]
  ·subst hlg;simp only[List.all_nil,Bool.not_true,Bool.false_eq_true,if_false]
   cases RR with
   |ok q=>
    obtain⟨q1,q2,q3⟩:=q;simp only[prvP]at hpv⊢;refine eW Tryz.call9 Tryz.func9 ?_;repeat' first|simp only[go_sem,seval]|refine cP hck ?_|refine cP hst ?_|refine cP hcx ?_|refine cP hpv ?_|(refine loop_unroll' ?_)|refine sB ?_|(first|apply pX|apply bX)<;>intro hc|refine⟨oD,?_⟩|exact oD|fail
    all_goals rfl
   |error e=>
    simp only[prvP]at hpv⊢;refine eW Tryz.call9 Tryz.func9 ?_;repeat' first|simp only[go_sem,seval]|refine cP hck ?_|refine cP hst ?_|refine cP hcx ?_|refine cP hpv ?_|(refine loop_unroll' ?_)|refine sB ?_|(first|apply pX|apply bX)<;>intro hc|refine⟨oD,?_⟩|exact oD|fail
    all_goals rfl
  have hpos:0<logs.length:=List.length_pos_iff.2 hlg;have hpv:logs.all validN=true→ _:=fun h=>hlz h▸hpv
  have hbad: ∀i,i<logs.length→validN (logs.getD i [])=false→logs.all validN=false:=fun i hi h=>by
   rw[List.all_eq_false];exact⟨_,mem_getD [] hi,by rw[h];exact Bool.false_ne_true⟩
  refine eW Tryz.call9 Tryz.func9 ?_;repeat' first|simp only[go_sem,seval,l1]|refine cP hck ?_|refine sB ?_|(first|apply pX|apply bX)<;>intro hc|refine⟨oD,?_⟩|exact oD|fail
  refine loop_unroll' ?_;have e1:=getD_S hpos;have hvl:=natValid (logs.getD 0 [])
  by_cases hb:validN (logs.getD 0 [])=true
  case neg=>
   rw[hbad 0 hpos (by simpa using hb)]
   rw[show validN (logs.getD 0 [])=false by simpa using hb]at hvl
   simp only[Bool.not_false,if_true];generalize logs.getD 0 []=x0 at*;repeat' first|simp only[go_sem,seval,l1,e1]|refine cP hvl ?_|refine sB ?_|(first|apply pX|apply bX)<;>intro hc|refine⟨oD,?_⟩|exact oD|fail
   all_goals rfl
  have hfr:=From_ok hb;rw[hb]at hvl;have t0:logs.take 1=[logs.getD 0 []]:=take_succ_getD [] hpos;have hb0:=hb;generalize logs.getD 0 []=x0 at*;repeat' first|simp only[go_sem,seval,l1,e1]|refine cP hvl ?_|refine cP hfr ?_|refine sB ?_|(first|apply pX|apply bX)<;>intro hc|refine⟨oD,?_⟩|exact oD|fail
  clear e1 hvl hfr;refine loop_run (α:=Nat⊕Unit) (fun j=>match j with| .inl j=>logs.length-j| .inr _=>0) (fun j=>match j with| .inl j=>⟨[(2, .v (.sl (logs.map .s))),(4, .p 1000 0 0),(5, .p 1001 0 0),(7, .p 1002 0 0),(8, .p 1003 0 0),(9, .p 1004 0 0),(23, .v (.sl (logs.map .s))),(24,E' logs.length),(25,E' (j+1)),(12, .rs 1027 j 0 (j+1) 2)],[(1000,⟨0,[.v (.s p.c), .v (.s p.sl), .v (.s p.mm), .v (.s p.mo), .v (.s p.mg), .v (.s p.mh), .v (.s p.wm), .v (.s p.wo), .v (.s p.wg), .v (.s p.wh), .v (.s p.se), .v (.s p.at'), .v (.s p.ha), .v (.s p.el), .v (.s p.es), .v (.s p.bl), .v (.s p.ma)],false,none⟩),(1001,⟨0,[.v (.s k.name), .v (.s k.m), .v (.s k.o), .v (.s k.z), .v (.s k.s), .v (.sl (k.r.map .s)), .v (.s k.u), .v (.s k.h)],false,none⟩),(1002,⟨0,[.v (.sl (vs.map .s)), .v (.s sd), .v (.i .i64 a)],false,none⟩),(1003,⟨0,[.v (.s []), .sn, .sn, .sn],false,some 45⟩),(1004,⟨0,[.sn, .v (.s []), .v (.i .i64 0)],false,some 35⟩),(1027,⟨j,rowF lz (logs.take (j+1)),true,some 53⟩)],1031⟩| .inr _=>⟨(12, .v (.sl (logs.map lz)))::[(2, .v (.sl (logs.map .s))),(4, .p 1000 0 0),(5, .p 1001 0 0),(7, .p 1002 0 0),(8, .p 1003 0 0),(9, .p 1004 0 0),(23, .v (.sl (logs.map .s))),(24,E' logs.length),(25,E' (logs.length))],[(1000,⟨0,[.v (.s p.c), .v (.s p.sl), .v (.s p.mm), .v (.s p.mo), .v (.s p.mg), .v (.s p.mh), .v (.s p.wm), .v (.s p.wo), .v (.s p.wg), .v (.s p.wh), .v (.s p.se), .v (.s p.at'), .v (.s p.ha), .v (.s p.el), .v (.s p.es), .v (.s p.bl), .v (.s p.ma)],false,none⟩),(1001,⟨0,[.v (.s k.name), .v (.s k.m), .v (.s k.o), .v (.s k.z), .v (.s k.s), .v (.sl (k.r.map .s)), .v (.s k.u), .v (.s k.h)],false,none⟩),(1002,⟨0,[.v (.sl (vs.map .s)), .v (.s sd), .v (.i .i64 a)],false,none⟩),(1003,⟨0,[.v (.s []), .sn, .sn, .sn],false,some 45⟩),(1004,⟨0,[.sn, .v (.s []), .v (.i .i64 0)],false,some 35⟩)],1031⟩) (fun j=>match j with| .inl j=>j+1<logs.length∧(logs.take (j+1)).all validN=true| .inr _=>logs.all validN=true) (if 1<logs.length then .inl 0 else .inr ()) (fun j=>by cases j<;>exact Nat.le_of_ble_eq_true rfl) ?_ ?_ ?_
  ·by_cases h:1<logs.length
   ·rw[if_pos h];exact⟨h,by rw[t0];simp[hb0]⟩
   ·rw[if_neg h];rw[List.take_of_length_le (by omega)]at t0
    rw[t0];simp[hb0]
  ·by_cases h:1<logs.length
   ·rw[if_pos h];simp only[Nat.zero_add,t0]
    (refine AS.Le.of (by first|decide|omega) ?_ ?_<;>simp[LeT,LeH,tget,hget,AV.bd,AV.bd.bdL,u8,bd_cellsOf,bcells_bd,icells_bd])
    all_goals exact⟨rfl,fun c hc=>bd_row hc⟩
   ·rw[if_neg h];have h1:logs.length=1:=by omega
    rw[List.take_of_length_le (by omega)]at t0
    refine leZ lzRow (m:=1027) (ver:=0) (len:=1) (gr:=true) (el:=some 53) (l:=logs) rfl (by rw[t0];rfl) h1.symm ?_ ?_
    ·simp[LeT,tget,AV.bd,h1]
    ·simp[LeH,hget,AV.bd,h1]
  ·clear t0 hb hb0;rintro(j|u) hok R hR
   ·obtain⟨hj,hall⟩:=hok;have hlm:(logs.take (j+1)).length=j+1:=by rw[List.length_take];omega
    have q1:=rowF_len lzRow (logs.take (j+1));have q2:=rowF_take lzRow (logs.take (j+1));rw[hlm]at q1 q2;have e1:=getD_S hj;have hvl:=natValid (logs.getD (j+1) []);have ts:=take_succ_getD ([]:Bytes) hj
    by_cases hb:validN (logs.getD (j+1) [])=true
    ·have hfr:=From_ok hb;rw[hb]at hvl;have hall2:(logs.take (j+1+1)).all validN=true:=by rw[ts,List.all_append,hall,List.all_cons,hb];rfl
     have hrs:rowF lz (logs.take (j+1+1))=rowF lz (logs.take (j+1))++[.v (.b false), .v (.s (logs.getD (j+1) []))]:=by rw[ts,lz_snoc]
     by_cases hlt:j+1+1<logs.length
     ·have hgo:=hR (.inl (j+1)) ⟨hlt,hall2⟩ (by simp only;omega)
      simp only[hrs]at hgo;generalize logs.getD (j+1) []=x1 at*;clear hR ts;repeat' first|simp only[go_sem,seval,l1,e1,q1,q2]|refine cP hvl ?_|refine cP hfr ?_|refine sB ?_|(first|apply pX|apply bX)<;>intro hc|refine⟨oD,?_⟩|exact oD|fail
      refine hgo _ ?_
      (refine AS.Le.of (by first|decide|omega) ?_ ?_<;>simp[LeT,LeH,tget,hget,AV.bd,AV.bd.bdL,u8,bd_cellsOf,bcells_bd,icells_bd])
      all_goals exact fun c hc=>by rcases hc with hc|rfl|rfl<;>first|exact bd_row hc|rfl
     ·have hT:logs.take (j+1+1)=logs:=List.take_of_length_le (by omega)
      rw[hT]at hall2 hrs;have hgo:=hR (.inr ()) hall2 (by simp only;omega)
      have h1:logs.length=j+1+1:=by omega
      generalize logs.getD (j+1) []=x1 at*;clear hR ts;repeat' first|simp only[go_sem,seval,l1,e1,q1,q2]|refine cP hvl ?_|refine cP hfr ?_|refine sB ?_|(first|apply pX|apply bX)<;>intro hc|refine⟨oD,?_⟩|exact oD|fail
      refine hgo _ ?_;refine leZ lzRow (m:=1027) (ver:=j+1) (len:=j+1+1) (gr:=true) (el:=some 53) (l:=logs) rfl (by simp[hget,hrs]) h1.symm ?_ ?_
      ·simp[LeT,tget,AV.bd,h1]
      ·simp[LeH,hget,AV.bd,h1]
    ·rw[hbad (j+1) hj (by simpa using hb)]
     rw[show validN (logs.getD (j+1) [])=false by simpa using hb]at hvl
     simp only[Bool.not_false,if_true];generalize logs.getD (j+1) []=x1 at*;clear hR;repeat' first|simp only[go_sem,seval,l1,e1]|refine cP hvl ?_|refine sB ?_|(first|apply pX|apply bX)<;>intro hc|refine⟨oD,?_⟩|exact oD|fail
     all_goals rfl
   ·have hall:logs.all validN=true:=hok;have hpv:=hpv hall;rw[hall];simp only[Bool.not_true,Bool.false_eq_true,if_false];clear hR
    cases RR with
    |ok q=>
     obtain⟨q1,q2,q3⟩:=q;simp only[prvP]at hpv⊢;repeat' first|simp only[go_sem,seval,l1]|refine cP hck ?_|refine cP hst ?_|refine cP hcx ?_|refine cP hpv ?_|refine sB ?_|(first|apply pX|apply bX)<;>intro hc|refine⟨oD,?_⟩|exact oD|fail
     all_goals rfl
    |error e=>
     simp only[prvP]at hpv⊢;repeat' first|simp only[go_sem,seval,l1]|refine cP hck ?_|refine cP hst ?_|refine cP hcx ?_|refine cP hpv ?_|refine sB ?_|(first|apply pX|apply bX)<;>intro hc|refine⟨oD,?_⟩|exact oD|fail
     all_goals rfl
 ·rw[if_pos h0];have hb:(keyE (parE p) k==0)=false:=by simpa using h0
  have hb2:(keyE (parE p) k !=0)=true:=by simpa using h0
  generalize keyE (parE p) k=e at*;unfold Par.pv Key.pv at*;simp only[prvP];refine eW Tryz.call9 Tryz.func9 ?_;repeat' first|simp only[go_sem,seval,hb,hb2]|refine cP hck ?_|refine sB ?_|(first|apply pX|apply bX)<;>intro hc|refine⟨oD,?_⟩|exact oD|fail
  all_goals rfl
theorem rkProve_ok {p:Par} {k:Key} (hp:p.short) (lm:k.m.length≤8) (ln:k.name.length≤60) (lr:k.r.length≤20) {logs vs:List Bytes} {sd:Bytes} {a:Int} (hlog:logs.length<1000000) (hl:vs.length<1000000) (hsd:sd.length<1000000):
  EvP Tryz.prog 10 [p.pv,k.pv, .sl (logs.map .s),T vs sd a] (prvP vs sd (prvK p k logs vs sd a)):=by
 have hck:=rCheck29_ok p k _ (r11Check_ok p hp) lm ln lr;unfold prvK
 by_cases h0:keyE (parE p) k=0
 ·rw[if_neg (by simpa using h0)]
  rw[h0]at hck;obtain⟨hpe,hkf⟩:=keyF_of h0;obtain⟨k1,k2,k3,k4,k5⟩:=key_facts lm hkf;have hv0:(keyS k).vars≠[]:=k3.v0;have hgr:(keyS k).groups=[(k.m,[])]:=by rw[←hkf.o];rfl
  have hlz:=fun h:logs.all validN=true=>logZ_lz h
  have hpv:=rProve22_ok (ruOK_of hp hpe) k1 hv0 k4 (oneS_key k) k3 hgr (imgL_key lm hkf) (ctx:=kctx k) (by simp[kctx];omega) (w:=logZ logs) (by simp[logZ];omega) (vs:=vs) (sd:=sd) (a:=a) hl hsd
  have hst:=rStatement_ok k lr;generalize prvG p.c p.sl (kctx k) (keyS k) (logZ logs) vs sd a=RR at*;have hcut:kctx k=[105,115,115,117,101,114,32,107,101,121,32]++k.name:=rfl;generalize kctx k=cx at*;generalize keyS k=S at*;clear k1 k2 k3 k4 k5 hkf h0 hpe hv0 hgr;obtain⟨sg,sv,se⟩:=S;have l1:(logs.map PV.s).length=logs.length:=List.length_map ..;unfold Par.pv Key.pv Stm.pv at*
  by_cases hlg:logs=[]
  ·subst hlg;simp only[List.all_nil,Bool.not_true,Bool.false_eq_true,if_false]
   cases RR with
   |ok q=>
    obtain⟨q1,q2,q3⟩:=q;simp only[prvP]at hpv⊢;refine eW Tryz.call10 Tryz.func10 ?_;repeat' first|simp only[go_sem,seval,←hcut]|refine cP hck ?_|refine cP hst ?_|refine cP hpv ?_|(refine loop_unroll' ?_)|refine sB ?_|(first|apply pX|apply bX)<;>intro hc|refine⟨oD,?_⟩|exact oD|fail
    all_goals rfl
   |error e=>
    simp only[prvP]at hpv⊢;refine eW Tryz.call10 Tryz.func10 ?_;repeat' first|simp only[go_sem,seval,←hcut]|refine cP hck ?_|refine cP hst ?_|refine cP hpv ?_|(refine loop_unroll' ?_)|refine sB ?_|(first|apply pX|apply bX)<;>intro hc|refine⟨oD,?_⟩|exact oD|fail
    all_goals rfl
  have hpos:0<logs.length:=List.length_pos_iff.2 hlg;have hpv:logs.all validN=true→ _:=fun h=>hlz h▸hpv
  have hbad: ∀i,i<logs.length→validN (logs.getD i [])=false→logs.all validN=false:=fun i hi h=>by
   rw[List.all_eq_false];exact⟨_,mem_getD [] hi,by rw[h];exact Bool.false_ne_true⟩
  refine eW Tryz.call10 Tryz.func10 ?_;repeat' first|simp only[go_sem,seval,l1]|refine cP hck ?_|refine sB ?_|(first|apply pX|apply bX)<;>intro hc|refine⟨oD,?_⟩|exact oD|fail
  refine loop_unroll' ?_;have e1:=getD_S hpos;have hvl:=rValid_ok (logs.getD 0 [])
  by_cases hb:validN (logs.getD 0 [])=true
  case neg=>
   rw[hbad 0 hpos (by simpa using hb)]
   rw[show validN (logs.getD 0 [])=false by simpa using hb]at hvl
   simp only[Bool.not_false,if_true];generalize logs.getD 0 []=x0 at*;repeat' first|simp only[go_sem,seval,l1,e1]|refine cP hvl ?_|refine sB ?_|(first|apply pX|apply bX)<;>intro hc|refine⟨oD,?_⟩|exact oD|fail
   all_goals rfl
  rw[hb]at hvl;have t0:logs.take 1=[logs.getD 0 []]:=take_succ_getD [] hpos;have hb0:=hb;generalize logs.getD 0 []=x0 at*;repeat' first|simp only[go_sem,seval,l1,e1]|refine cP hvl ?_|refine sB ?_|(first|apply pX|apply bX)<;>intro hc|refine⟨oD,?_⟩|exact oD|fail
  clear e1 hvl;refine loop_run (α:=Nat⊕Unit) (fun j=>match j with| .inl j=>logs.length-j| .inr _=>0) (fun j=>match j with| .inl j=>⟨[(2, .v (.sl (logs.map .s))),(4, .p 1000 0 0),(5, .p 1001 0 0),(7, .p 1002 0 0),(8, .p 1003 0 0),(9, .p 1004 0 0),(13,E' (j+1)),(12, .rs 1031 j 0 (j+1) 2)],[(1000,⟨0,[.v (.s p.c), .v (.s p.sl), .v (.s p.mm), .v (.s p.mo), .v (.s p.mg), .v (.s p.mh), .v (.s p.wm), .v (.s p.wo), .v (.s p.wg), .v (.s p.wh), .v (.s p.se), .v (.s p.at'), .v (.s p.ha), .v (.s p.el), .v (.s p.es), .v (.s p.bl), .v (.s p.ma)],false,none⟩),(1001,⟨0,[.v (.s k.name), .v (.s k.m), .v (.s k.o), .v (.s k.z), .v (.s k.s), .v (.sl (k.r.map .s)), .v (.s k.u), .v (.s k.h)],false,none⟩),(1002,⟨0,[.v (.sl (vs.map .s)), .v (.s sd), .v (.i .i64 a)],false,none⟩),(1003,⟨0,[.v (.s []), .sn, .sn, .sn],false,some 45⟩),(1004,⟨0,[.sn, .v (.s []), .v (.i .i64 0)],false,some 35⟩),(1031,⟨j,rowF lz (logs.take (j+1)),true,some 53⟩)],1036⟩| .inr _=>⟨(12, .v (.sl (logs.map lz)))::[(2, .v (.sl (logs.map .s))),(4, .p 1000 0 0),(5, .p 1001 0 0),(7, .p 1002 0 0),(8, .p 1003 0 0),(9, .p 1004 0 0),(13,E' (logs.length))],[(1000,⟨0,[.v (.s p.c), .v (.s p.sl), .v (.s p.mm), .v (.s p.mo), .v (.s p.mg), .v (.s p.mh), .v (.s p.wm), .v (.s p.wo), .v (.s p.wg), .v (.s p.wh), .v (.s p.se), .v (.s p.at'), .v (.s p.ha), .v (.s p.el), .v (.s p.es), .v (.s p.bl), .v (.s p.ma)],false,none⟩),(1001,⟨0,[.v (.s k.name), .v (.s k.m), .v (.s k.o), .v (.s k.z), .v (.s k.s), .v (.sl (k.r.map .s)), .v (.s k.u), .v (.s k.h)],false,none⟩),(1002,⟨0,[.v (.sl (vs.map .s)), .v (.s sd), .v (.i .i64 a)],false,none⟩),(1003,⟨0,[.v (.s []), .sn, .sn, .sn],false,some 45⟩),(1004,⟨0,[.sn, .v (.s []), .v (.i .i64 0)],false,some 35⟩)],1036⟩) (fun j=>match j with| .inl j=>j+1<logs.length∧(logs.take (j+1)).all validN=true| .inr _=>logs.all validN=true) (if 1<logs.length then .inl 0 else .inr ()) (fun j=>by cases j<;>exact Nat.le_of_ble_eq_true rfl) ?_ ?_ ?_
  ·by_cases h:1<logs.length
   ·rw[if_pos h];exact⟨h,by rw[t0];simp[hb0]⟩
   ·rw[if_neg h];rw[List.take_of_length_le (by omega)]at t0
    rw[t0];simp[hb0]
  ·by_cases h:1<logs.length
   ·rw[if_pos h];simp only[Nat.zero_add,t0]
    (refine AS.Le.of (by first|decide|omega) ?_ ?_<;>simp[LeT,LeH,tget,hget,AV.bd,AV.bd.bdL,u8,bd_cellsOf,bcells_bd,icells_bd])
    all_goals exact⟨rfl,fun c hc=>bd_row hc⟩
   ·rw[if_neg h];have h1:logs.length=1:=by omega
    rw[List.take_of_length_le (by omega)]at t0
    refine leZ lzRow (m:=1031) (ver:=0) (len:=1) (gr:=true) (el:=some 53) (l:=logs) rfl (by rw[t0];rfl) h1.symm ?_ ?_
    ·simp[LeT,tget,AV.bd,h1]
    ·simp[LeH,hget,AV.bd,h1]
  ·clear t0 hb hb0;rintro(j|u) hok R hR
   ·obtain⟨hj,hall⟩:=hok;have hlm:(logs.take (j+1)).length=j+1:=by rw[List.length_take];omega
    have q1:=rowF_len lzRow (logs.take (j+1));have q2:=rowF_take lzRow (logs.take (j+1));rw[hlm]at q1 q2;have e1:=getD_S hj;have hvl:=rValid_ok (logs.getD (j+1) []);have ts:=take_succ_getD ([]:Bytes) hj
    by_cases hb:validN (logs.getD (j+1) [])=true
    ·rw[hb]at hvl;have hall2:(logs.take (j+1+1)).all validN=true:=by rw[ts,List.all_append,hall,List.all_cons,hb];rfl
     have hrs:rowF lz (logs.take (j+1+1))=rowF lz (logs.take (j+1))++[.v (.b false), .v (.s (logs.getD (j+1) []))]:=by rw[ts,lz_snoc]
     by_cases hlt:j+1+1<logs.length
     ·have hgo:=hR (.inl (j+1)) ⟨hlt,hall2⟩ (by simp only;omega)
      simp only[hrs]at hgo;generalize logs.getD (j+1) []=x1 at*;clear hR ts;repeat' first|simp only[go_sem,seval,l1,e1,q1,q2]|refine cP hvl ?_|refine sB ?_|(first|apply pX|apply bX)<;>intro hc|refine⟨oD,?_⟩|exact oD|fail
      refine hgo _ ?_
      (refine AS.Le.of (by first|decide|omega) ?_ ?_<;>simp[LeT,LeH,tget,hget,AV.bd,AV.bd.bdL,u8,bd_cellsOf,bcells_bd,icells_bd])
      all_goals exact fun c hc=>by rcases hc with hc|rfl|rfl<;>first|exact bd_row hc|rfl
     ·have hT:logs.take (j+1+1)=logs:=List.take_of_length_le (by omega)
      rw[hT]at hall2 hrs;have hgo:=hR (.inr ()) hall2 (by simp only;omega)
      have h1:logs.length=j+1+1:=by omega
      generalize logs.getD (j+1) []=x1 at*;clear hR ts;repeat' first|simp only[go_sem,seval,l1,e1,q1,q2]|refine cP hvl ?_|refine sB ?_|(first|apply pX|apply bX)<;>intro hc|refine⟨oD,?_⟩|exact oD|fail
      refine hgo _ ?_;refine leZ lzRow (m:=1031) (ver:=j+1) (len:=j+1+1) (gr:=true) (el:=some 53) (l:=logs) rfl (by simp[hget,hrs]) h1.symm ?_ ?_
      ·simp[LeT,tget,AV.bd,h1]
      ·simp[LeH,hget,AV.bd,h1]
    ·rw[hbad (j+1) hj (by simpa using hb)]
     rw[show validN (logs.getD (j+1) [])=false by simpa using hb]at hvl
     simp only[Bool.not_false,if_true];generalize logs.getD (j+1) []=x1 at*;clear hR;repeat' first|simp only[go_sem,seval,l1,e1]|refine cP hvl ?_|refine sB ?_|(first|apply pX|apply bX)<;>intro hc|refine⟨oD,?_⟩|exact oD|fail
     all_goals rfl
   ·have hall:logs.all validN=true:=hok;have hpv:=hpv hall;rw[hall];simp only[Bool.not_true,Bool.false_eq_true,if_false];clear hR
    cases RR with
    |ok q=>
     obtain⟨q1,q2,q3⟩:=q;simp only[prvP]at hpv⊢;repeat' first|simp only[go_sem,seval,l1,←hcut]|refine cP hck ?_|refine cP hst ?_|refine cP hpv ?_|refine sB ?_|(first|apply pX|apply bX)<;>intro hc|refine⟨oD,?_⟩|exact oD|fail
     all_goals rfl
    |error e=>
     simp only[prvP]at hpv⊢;repeat' first|simp only[go_sem,seval,l1,←hcut]|refine cP hck ?_|refine cP hst ?_|refine cP hpv ?_|refine sB ?_|(first|apply pX|apply bX)<;>intro hc|refine⟨oD,?_⟩|exact oD|fail
     all_goals rfl
 ·rw[if_pos h0];have hb:(keyE (parE p) k==0)=false:=by simpa using h0
  have hb2:(keyE (parE p) k !=0)=true:=by simpa using h0
  generalize keyE (parE p) k=e at*;unfold Par.pv Key.pv at*;simp only[prvP];refine eW Tryz.call10 Tryz.func10 ?_;repeat' first|simp only[go_sem,seval,hb,hb2]|refine cP hck ?_|refine sB ?_|(first|apply pX|apply bX)<;>intro hc|refine⟨oD,?_⟩|exact oD|fail
  all_goals rfl
end Go.Proofs.YtmledjfbgjnknaaGreatDoor
