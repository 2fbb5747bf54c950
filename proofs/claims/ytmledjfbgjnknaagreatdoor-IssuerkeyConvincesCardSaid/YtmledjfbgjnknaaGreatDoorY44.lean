/-
  Part of the proof, part Y44. Own work.
-/
import Derived.Test.YtmledjfbgjnknaaGreatDoorY43
set_option linter.all false
namespace Go.Proofs.YtmledjfbgjnknaaGreatDoor
open Go Go.Dom Go.Num
set_option maxRecDepth 100000
set_option maxHeartbeats 16000000
theorem zRow:RowOK Zp 2:=⟨fun _=>rfl,fun x y hy=>by simp[Zp,ipv,ipz,PV.cells]at hy;rcases hy with rfl|rfl<;>rfl,fun h=>by omega,fun _ x=>rfl⟩
def maskP (vs:List Bytes) (sd:Bytes) (j:Nat):Except Int (List Int)→PV
 | .ok ms=> .tup [.sl (ms.map Zp),T vs sd j,E 0]
 | .error e=> .tup [.sl [],T [] [] 0,E e]
theorem limM_ok {c sl b:Bytes} (hr:RuOK c sl) (vb:validN b=true) (hb:b≠[]) (lb:b.length≤16):1≤limM c sl b∧3*limM c sl b<LIM:=by
 have h1:=hr.c2;have h2:=hr.s2;have h3:=num_ne vb hb;unfold limM;refine⟨Nat.mul_pos (Nat.mul_pos (by omega) (by omega)) (by omega),?_⟩
 have g1:num sl<256^8:=Nat.lt_of_lt_of_le (num_lt sl) (Nat.pow_le_pow_right (by decide) hr.ls)
 have g2:num c<256^8:=Nat.lt_of_lt_of_le (num_lt c) (Nat.pow_le_pow_right (by decide) hr.lc)
 have g3:num b<256^16:=Nat.lt_of_lt_of_le (num_lt b) (Nat.pow_le_pow_right (by decide) lb)
 have g4:num sl*num c*num b≤256^8*256^8*256^16:=Nat.mul_le_mul (Nat.mul_le_mul (Nat.le_of_lt g1) (Nat.le_of_lt g2)) (Nat.le_of_lt g3);exact Nat.lt_of_le_of_lt (Nat.mul_le_mul_left 3 g4) (by unfold LIM;decide+kernel)
theorem zs_snoc (ms:List Int) (z:Int):rowF Zp (ms++[z])=rowF Zp ms++[.v (.b (zs z)), .v (.s (zb z))]:=by rw[rowF_snoc];rfl
theorem draw16_ok {c sl:Bytes} (hr:RuOK c sl) {s:Stm} (hs:StOK s) (h0:s.vars≠[]) {vs:List Bytes} {sd:Bytes} {i:Nat} (hv:vs.all validN=true) (hi:i≤2147483647) (hl:vs.length<1000000) (hsd:sd.length<1000000):
  EvP Tryz.prog 121 [s.pv, .sl (s.vars.map (limP c sl)),T vs sd i] (maskP vs sd (i+s.vars.length) (maskG vs sd (s.vars.map (limM c sl)) i [])):=by
 have hb:=hs.v;have nv:=hs.nv;obtain⟨gs,us,es⟩:=s;simp only at hb nv h0;clear hs;have hpos:0<us.length:=List.length_pos_iff.2 h0;have l2:(us.map vpv).length=us.length:=List.length_map ..;have l3:(us.map (limP c sl)).length=us.length:=List.length_map ..;obtain⟨R0,hR0⟩: ∃R0,R0=maskG vs sd ((us.drop 0).map (limM c sl)) i []:=⟨_,rfl⟩;simp only;rw[show us.map (limM c sl)=(us.drop 0).map (limM c sl)from rfl,←hR0]
 unfold Stm.pv;simp only;refine eW Tryz.call121 Tryz.func121 ?_;repeat' first|simp only[go_sem,seval,l2]|refine sB ?_|(first|apply pX|apply bX)<;>intro hc|refine⟨oD,?_⟩|exact oD|fail
 refine loop_unroll' ?_;have e1:=getD_map vpv us [] hpos;have e2:=getD_map (limP c sl) us [] hpos;obtain⟨k1,k2,k3⟩:=hb _ (mem_getD [] hpos);have hk:=skind_ok k2;have hm:=limM_ok hr k1 k2 k3;have hg:=fun hi=>Signed_ok (vs:=vs) (sd:=sd) (i:=i) hv hi hl hsd hm.1 hm.2
 rw[drop_getD [] hpos,List.map_cons,maskG]at hR0;have hm1:=hm.1;have hm2:2*limM c sl (us.getD 0 [])<LIM:=by have:=hm.2;omega
 clear hm k1 k2 k3;generalize us.getD 0 []=u at*;simp only[vpv]at e1 hk;simp only[limP]at e2;generalize limM c sl u=M at*;generalize limR c sl u=Rr at*;have hg:=hg hi
 cases hsg:signO vs sd i M with
 |error e=>
  rw[hsg]at hg hR0;simp only[signP]at hg hR0;have he:(e !=0)=true:=by rcases signO_err hsg with rfl|rfl<;>rfl
  subst hR0;repeat' first|simp only[go_sem,seval,l2,l3,e1,e2,he]|refine cP hk ?_|refine cP hg ?_|refine sB ?_|(first|apply pX|apply bX)<;>intro hc|refine⟨oD,?_⟩|exact oD|fail
  all_goals rfl
 |ok z=>
  have hsi:i+(0+1)≤2147483647:=(signO_ok hv hm1 hm2 hl hi hsg).2;rw[hsg]at hg hR0;simp only[signP]at hg hR0;repeat' first|simp only[go_sem,seval,l2,l3,e1,e2]|refine cP hk ?_|refine cP hg ?_|refine sB ?_|(first|apply pX|apply bX)<;>intro hc|refine⟨oD,?_⟩|exact oD|fail
  clear e1 e2 hk hg;refine loop_run (α:=Nat×List Int) (fun p=>us.length-(p.1+1)) (fun p=>⟨[(1, .v (.sl (us.map (limP c sl)))),(3, .p 1000 0 0),(5, .p 1001 0 0),(7, .p 1003 0 0),(9, .rs 1041 p.1 0 (p.1+1) 2),(15, .v (.sl (us.map vpv))),(16,E' us.length),(17,E' (p.1+1))],[(1000,⟨0,[.v (.sl (gs.map gpv)), .v (.sl (us.map vpv)), .v (.sl (es.map Eqn.pv))],false,none⟩),(1001,⟨0,[.v (.sl (vs.map .s)), .v (.s sd), .v (.i .i64 ((i+(p.1+1):Nat):Int))],false,none⟩),(1003,⟨0,[.sn, .v (.s []), .v (.i .i64 0)],false,some 35⟩),(1041,⟨p.1,rowF Zp p.2,true,some 53⟩)],1045⟩) (fun p=>p.1+1≤us.length∧p.2.length=p.1+1∧i+(p.1+1)≤2147483647∧R0=maskG vs sd ((us.drop (p.1+1)).map (limM c sl)) (i+(p.1+1)) p.2) (0,[z]) (fun _=>Nat.le_of_ble_eq_true rfl) ⟨hpos,rfl,hsi,hR0⟩ ?_ ?_
  ·(refine AS.Le.of (by first|decide|omega) ?_ ?_<;>simp[LeT,LeH,tget,hget,AV.bd,AV.bd.bdL,u8,bd_cellsOf,bcells_bd,icells_bd])
   all_goals exact⟨rfl,fun c hc=>bd_row hc⟩
  ·rintro⟨j,ms⟩ ⟨hj,hlm,hij,hR0⟩ R hR;simp only at hj hlm hij hR0;have q1:=rowF_len zRow ms;have q2:=rowF_take zRow ms;rw[hlm]at q1 q2
   by_cases hlt:j+1<us.length
   ·have e1:=getD_map vpv us [] hlt;have e2:=getD_map (limP c sl) us [] hlt;obtain⟨k1,k2,k3⟩:=hb _ (mem_getD [] hlt);have hk:=skind_ok k2;have hm:=limM_ok hr k1 k2 k3;have hg:=fun hi=>Signed_ok (vs:=vs) (sd:=sd) (i:=(i+(j+1))) hv hi hl hsd hm.1 hm.2
    rw[drop_getD [] hlt,List.map_cons,maskG]at hR0;have hm1:=hm.1;have hm2:2*limM c sl (us.getD (j+1) [])<LIM:=by have:=hm.2;omega
    clear hm k1 k2 k3;generalize us.getD (j+1) []=u at*;simp only[vpv]at e1 hk;simp only[limP]at e2;generalize limM c sl u=M at*;generalize limR c sl u=Rr at*;have hg:=hg hij
    cases hsg:signO vs sd (i+(j+1)) M with
    |error e=>
     rw[hsg]at hg hR0;simp only[signP]at hg hR0;have he:(e !=0)=true:=by rcases signO_err hsg with rfl|rfl<;>rfl
     subst hR0;clear hR;repeat' first|simp only[go_sem,seval,l2,l3,e1,e2,he,q1,q2]|refine cP hk ?_|refine cP hg ?_|refine sB ?_|(first|apply pX|apply bX)<;>intro hc|refine⟨oD,?_⟩|exact oD|fail
     all_goals rfl
    |ok y=>
     have hsi:i+(j+1+1)≤2147483647:=(signO_ok hv hm1 hm2 hl hij hsg).2;rw[hsg]at hg hR0;simp only[signP]at hg hR0;have hgo:=hR (j+1,ms++[y]) ⟨by omega,by simp[hlm],hsi,hR0⟩ (by simp only;omega)
     simp only[zs_snoc]at hgo;clear hR;repeat' first|simp only[go_sem,seval,l2,l3,e1,e2,q1,q2]|refine cP hk ?_|refine cP hg ?_|refine sB ?_|(first|apply pX|apply bX)<;>intro hc|refine⟨oD,?_⟩|exact oD|fail
     refine hgo _ ?_
     (refine AS.Le.of (by first|decide|omega) ?_ ?_<;>simp[LeT,LeH,tget,hget,AV.bd,AV.bd.bdL,u8,bd_cellsOf,bcells_bd,icells_bd])
     all_goals exact⟨by omega,fun c hc=>by rcases hc with hc|rfl|rfl<;>first|exact bd_row hc|rfl⟩
   ·have hjl:us.length=j+1:=by omega
    rw[List.drop_of_length_le (by omega)]at hR0
    simp only[List.map_nil,maskG]at hR0;subst hR0;have q3:=rowF_all zRow ms;have q4:=rowF_chunk zRow ms;rw[hlm]at q4;rw[hjl];clear hR;repeat' first|simp only[go_sem,seval,l2,hjl,q1,q2,q3,q4,rowF_mapO]|refine sB ?_|(first|apply pX|apply bX)<;>intro hc|refine⟨oD,?_⟩|exact oD|fail
    all_goals rfl
noncomputable def commP (s:Stm) (vs:List Bytes) (sd:Bytes) (j:Nat):Except Int (List Int)→PV
 | .ok ms=> .tup [.sl (ms.map Zp), .sl ((imgL s (ms.map ipz)).map .s),T vs sd j,E 0]
 | .error e=> .tup [.sl [], .sl [],T [] [] 0,E e]
theorem maskG_facts {c sl:Bytes} (hr:RuOK c sl) {us:List Bytes} (hb: ∀b∈us,validN b=true∧b≠[]∧b.length≤16) {vs:List Bytes} {sd:Bytes} {i:Nat} (hv:vs.all validN=true) (hi:i≤2147483647) (hl:vs.length<1000000) {ms:List Int} (h:maskG vs sd (us.map (limM c sl)) i []= .ok ms):
  ms.length=us.length∧(∀j,j<us.length→(ms.getD j 0).natAbs<limM c sl (us.getD j []))∧i+us.length≤2147483647∧ ∀x∈ms.map ipz,izok x=true:=by
 have hM: ∀M∈us.map (limM c sl),1≤M∧2*M<LIM:=fun M hM=>by
  obtain⟨b,hbm,rfl⟩:=List.mem_map.1 hM;obtain⟨k1,k2,k3⟩:=hb b hbm;have:=limM_ok hr k1 k2 k3;omega
 obtain⟨r,h1,h2,h3,h4⟩:=maskG_ok hv hl _ _ _ _ hM hi h;rw[List.nil_append]at h1;rw[←h1]at h2 h3;clear h1;simp only[List.length_map]at h2 h3 h4;have hlt: ∀j,j<us.length→(ms.getD j 0).natAbs<limM c sl (us.getD j []):=fun j hj=>by
  have:=h3 j hj;simpa[List.getD_eq_getElem?_getD,hj]using this
 refine⟨h2,hlt,h4,fun x hx=> ?_⟩
 obtain⟨z,hz,rfl⟩:=List.mem_map.1 hx;obtain⟨j,hj,rfl⟩:=List.getElem_of_mem hz;have:=hlt j (by omega)
 rw[List.getD_eq_getElem?_getD,List.getElem?_eq_getElem hj]at this;exact izok_ipz (Nat.lt_trans this (limM_lt hr (hb _ (mem_getD [] (by omega))).2.2))
theorem Commit16_ok {c sl:Bytes} (hr:RuOK c sl) {s:Stm} (hs:StOK s) (h0:s.vars≠[]) (h00:s.eqs≠[]) (ho:OneS s) {vs:List Bytes} {sd:Bytes} {i:Nat} (hv:vs.all validN=true) (hi:i≤2147483647) (hl:vs.length<1000000) (hsd:sd.length<1000000):
  EvP Tryz.prog 55 [.agg [.s c, .s sl],s.pv,T vs sd i] (commP s vs sd (i+s.vars.length) (maskG vs sd (s.vars.map (limM c sl)) i [])):=by
 have hb:=sbounds_ok hr hs h0;have hd:=draw16_ok hr hs h0 (vs:=vs) (sd:=sd) (i:=i) hv hi hl hsd
 cases hR:maskG vs sd (s.vars.map (limM c sl)) i []with
 |error e=>
  have he:(e !=0)=true:=by rcases maskG_err hR with rfl|rfl<;>rfl
  rw[hR]at hd;obtain⟨gs,us,es⟩:=s;simp only[maskP,commP,Stm.pv]at hb hd⊢;refine eW Tryz.call55 Tryz.func55 ?_;repeat' first|simp only[go_sem,seval,he]|refine cP hb ?_|refine cP hd ?_|refine sB ?_|(first|apply pX|apply bX)<;>intro hc|refine⟨oD,?_⟩|exact oD|fail
  all_goals rfl
 |ok ms=>
  have hf:=maskG_facts hr hs.v hv hi hl hR;have nv:=hs.nv;have hm:=Images_ok hs h00 ho (w:=ms.map ipz) (by rw[List.length_map];omega)
  rw[List.all_eq_true.2 hf.2.2.2,List.length_map,hf.1]at hm;simp only[Bool.true_and,decide_true,if_true,Bool.not_true,Bool.false_eq_true,if_false,ne_eq,not_true_eq_false,List.map_map]at hm;have hZ:(ipv∘ipz)=Zp:=rfl;rw[hZ]at hm;rw[hR]at hd;simp only[maskP,commP]at hd⊢;generalize imgL s (ms.map ipz)=L at*;obtain⟨gs,us,es⟩:=s;simp only[Stm.pv]at hb hd hm⊢;refine eW Tryz.call55 Tryz.func55 ?_;repeat' first|simp only[go_sem,seval]|refine cP hb ?_|refine cP hd ?_|refine cP hm ?_|refine sB ?_|(first|apply pX|apply bX)<;>intro hc|refine⟨oD,?_⟩|exact oD|fail
  all_goals rfl
theorem sRange_ok {s:Stm} (hs:StOK s) {w:List (Bool×Bytes)} (hwl:w.length=s.vars.length) (hw: ∀x∈w,izok x=true):EvP Tryz.prog 134 [s.pv, .sl (w.map ipv)] (.b (inW s.vars w)):=by
 have hv:=hs.v;have nv:=hs.nv;have hor:=sorder_ok s (by have:=hs.ng;omega)
 obtain⟨gs,vs,es⟩:=s;simp only at hv hwl nv hor;have l2:(vs.map vpv).length=vs.length:=List.length_map ..;have l5:(w.map ipv).length=vs.length:=by rw[List.length_map];exact hwl
 generalize ordL gs=oq at*;unfold Stm.pv at*;simp only at*;refine eW Tryz.call134 Tryz.func134 ?_;repeat' first|simp only[go_sem,seval,l2]|refine cP hor ?_|refine sB ?_|(first|apply pX|apply bX)<;>intro hc|refine⟨oD,?_⟩|exact oD|fail
 refine loop_run (α:=Nat) (fun i=>vs.length-i) (fun i=>⟨[(1, .v (.sl (w.map ipv))),(2, .p 1000 0 0),(5, .v (.s oq)),(12, .v (.sl (vs.map vpv))),(13,E' vs.length),(14,E' i)],[(1000,⟨0,[.v (.sl (gs.map gpv)), .v (.sl (vs.map vpv)), .v (.sl (es.map Eqn.pv))],false,none⟩)],_⟩) (fun i=>i≤vs.length∧ ∀j,j<i→num (w.getD j d0I).2<num (vs.getD j [])) 0 (fun _=>Nat.le_refl _) ⟨Nat.zero_le _,fun j hj=>by omega⟩ ?_ ?_
 ·exact lE
 ·rintro i ⟨hi,hall⟩ R hR
  by_cases hlt:i<vs.length
  ·have e1:=getD_map vpv vs [] hlt;have e2:=getD_map ipv w d0I (i:=i) (by omega)
   obtain⟨b1,b2,-⟩:=hv _ (mem_getD [] hlt);have kw:=hw _ (mem_getD d0I (show i<w.length by omega))
   have hgo:=fun h=>hR (i+1) ⟨by omega,h⟩ (by omega)
   have hbad:=fun h: ¬num (w.getD i d0I).2<num (vs.getD i [])=>all_bad (p:=fun i=>decide (num (w.getD i d0I).2<num (vs.getD i []))) hlt (decide_eq_false h)
   have hnx:num (w.getD i d0I).2<num (vs.getD i [])→ ∀j,j<i+1→num (w.getD j d0I).2<num (vs.getD j []):=fun h j hj=>by
    by_cases hji:j<i
    ·exact hall j hji
    ·obtain rfl:j=i:=by omega
     exact h
   rw[←inW]at hbad;clear hR hall;generalize vs.getD i []=b at*;obtain⟨x,hx⟩: ∃x,x=w.getD i d0I:=⟨_,rfl⟩;rw[←hx]at e2 kw hbad hnx;clear hx;obtain⟨n,a⟩:=x;simp only[izok,Bool.and_eq_true]at kw hbad hnx;have hk:=skind_ok b2;have hc:=sbelow_ok b2 (n:=n) kw.1 (num_of b1);rw[N_of b1]at hc;simp only[vpv]at e1 hk hc;simp only[ipv]at e2
   by_cases hlt2:num a<num b
   ·have hgo:=hgo (hnx hlt2);rw[decide_eq_true hlt2]at hc;repeat' first|simp only[go_sem,seval,l2,l5,e1,e2]|refine cP hk ?_|refine cP hc ?_|refine sB ?_|(first|apply pX|apply bX)<;>intro hc|refine⟨oD,?_⟩|exact oD|fail
    refine hgo _ ?_;exact lE
   ·rw[hbad hlt2];rw[decide_eq_false hlt2]at hc;repeat' first|simp only[go_sem,seval,l2,l5,e1,e2]|refine cP hk ?_|refine cP hc ?_|refine sB ?_|(first|apply pX|apply bX)<;>intro hc|refine⟨oD,?_⟩|exact oD|fail
  ·obtain rfl:i=vs.length:=by omega
   have hg:inW vs w=true:=all_good fun j hj=>decide_eq_true (hall j hj)
   rw[hg];repeat' first|simp only[go_sem,seval]|refine sB ?_|(first|apply pX|apply bX)<;>intro hc|refine⟨oD,?_⟩|exact oD|fail
def respP (c sl:Bytes) (us:List Bytes) (rs:List Int):PV:=if inR c sl us rs then .tup [.sl (rs.map Zp),E 0]else .tup [.sl [],E 15]
def okI (c sl:Bytes) (us:List Bytes) (rs:List Int) (k:Nat):Prop:=(rs.getD k 0).natAbs<limR c sl (us.getD k [])
theorem respond_ok {c sl:Bytes} (hr:RuOK c sl) {s:Stm} (hs:StOK s) (h0:s.vars≠[]) {w ms:List Int} {ch:Nat} (hwl:w.length=s.vars.length) (hml:ms.length=s.vars.length) (hch:ch<W128) (hI: ∀i,i<s.vars.length→(w.getD i 0).natAbs<W128∧(ms.getD i 0).natAbs+((ch:Int)*w.getD i 0).natAbs<LIM):
  EvP Tryz.prog 136 [s.pv, .sl (s.vars.map (limP c sl)), .sl (w.map Zp), .sl (ms.map Zp),N ch] (respP c sl s.vars (respZ ms w ch)):=by
 have hb:=hs.v;have nv:=hs.nv;obtain⟨gs,us,es⟩:=s;simp only at hb nv h0 hwl hml hI;clear hs;have hpos:0<us.length:=List.length_pos_iff.2 h0;have l2:(us.map vpv).length=us.length:=List.length_map ..;have l3:(us.map (limP c sl)).length=us.length:=List.length_map ..;have l4:(w.map Zp).length=us.length:=by rw[List.length_map];exact hwl
 have l5:(ms.map Zp).length=us.length:=by rw[List.length_map];exact hml
 have hF:=FromZ (n:=ch) (Nat.lt_of_lt_of_le hch w128);have hrl:(respZ ms w ch).length=us.length:=by simp[respZ];omega
 have rS: ∀{j:Nat},j<us.length→rowF Zp ((respZ ms w ch).take (j+1))=rowF Zp ((respZ ms w ch).take j)++[.v (.b (zs ((respZ ms w ch).getD j 0))), .v (.s (zb ((respZ ms w ch).getD j 0)))]:=fun h=>by
  rw[take_succ_getD 0 (by omega),zs_snoc]
 unfold Stm.pv;simp only;refine eW Tryz.call136 Tryz.func136 ?_;repeat' first|simp only[go_sem,seval,l2]|refine sB ?_|(first|apply pX|apply bX)<;>intro hc|refine⟨oD,?_⟩|exact oD|fail
 refine loop_unroll' ?_;have e1:=getD_map vpv us [] hpos;have e2:=getD_map (limP c sl) us [] hpos;have e3:=getD_map Zp w 0 (i:=0) (by omega)
 have e4:=getD_map Zp ms 0 (i:=0) (by omega)
 obtain⟨k1,k2,k3⟩:=hb _ (mem_getD [] hpos);have hk:=skind_ok k2;have hlr:=limR_lt hr k3;have hx:=hI 0 hpos;have hp:=iMulZ (x:=(ch:Int)) (y:=w.getD 0 0) (by simpa using hch) hx.1
 have ha:=iAddL (x:=ms.getD 0 0) (y:=(ch:Int)*w.getD 0 0) hx.2;have hc:=sbelow_ok k2 (n:=zs (ms.getD 0 0+ch*w.getD 0 0)) (a:=zb (ms.getD 0 0+ch*w.getD 0 0)) (vB (by have:=Int.natAbs_add_le (ms.getD 0 0) (ch*w.getD 0 0);have:=hx.2;omega)) hlr
 rw[num_zb]at hc;have hgr:=getD_resp (ms:=ms) (w:=w) (c:=ch) (i:=0) (by omega) (by omega)
 clear hx k1 k2 k3 hlr;have hbad:=fun h=>all_bad (p:=fun i=>decide (((respZ ms w ch).getD i 0).natAbs<limR c sl (us.getD i []))) hpos (decide_eq_false h)
 have hgood:(ms.getD 0 0+ch*w.getD 0 0).natAbs<limR c sl (us.getD 0 [])→okI c sl us (respZ ms w ch) 0:=fun h=>by rw[okI,hgr];exact h
 rw[←inR,hgr]at hbad;generalize us.getD 0 []=u at*;simp only[vpv]at e1 hk hc;simp only[limP]at e2;simp only[Zp,ipv,ipz]at e3 e4;generalize limM c sl u=M at*;generalize limR c sl u=Rr at*;have r1:=rS hpos;rw[hgr]at r1
 by_cases hlt:(ms.getD 0 0+ch*w.getD 0 0).natAbs<Rr
 ·rw[decide_eq_true hlt]at hc;generalize hz:ms.getD 0 0+ch*w.getD 0 0=z at*;repeat' first|simp only[go_sem,seval,l2,l3,l4,l5,e1,e2,e3,e4]|refine cP hk ?_|refine cP hF ?_|refine cP hp ?_|refine cP ha ?_|refine cP hc ?_|refine sB ?_|(first|apply pX|apply bX)<;>intro hc|refine⟨oD,?_⟩|exact oD|fail
  refine loop_run (α:=Nat) (fun j=>us.length-(j+1)) (fun j=>⟨[(1, .v (.sl (us.map (limP c sl)))),(2, .v (.sl (w.map Zp))),(3, .v (.sl (ms.map Zp))),(4, .v (N ch)),(5, .p 1000 0 0),(12, .rs 1059 j 0 (j+1) 2),(28, .v (.sl (us.map vpv))),(29,E' us.length),(30,E' (j+1))],[(1000,⟨0,[.v (.sl (gs.map gpv)), .v (.sl (us.map vpv)), .v (.sl (es.map Eqn.pv))],false,none⟩),(1059,⟨j,rowF Zp ((respZ ms w ch).take (j+1)),true,some 53⟩)],1063⟩) (fun j=>j+1≤us.length∧ ∀k,k<j+1→okI c sl us (respZ ms w ch) k) 0 (fun _=>Nat.le_of_ble_eq_true rfl) ⟨hpos,fun k hk=>by obtain rfl:k=0:=(by omega);exact hgood hlt⟩ ?_ ?_
  ·(refine AS.Le.of (by first|decide|omega) ?_ ?_<;>simp[LeT,LeH,tget,hget,AV.bd,AV.bd.bdL,u8,bd_cellsOf,bcells_bd,icells_bd])
   all_goals exact⟨by rw[r1];rfl,fun c hc=>bd_row hc⟩
  ·clear e1 e2 e3 e4 hk hp ha hc hgr hbad r1 hgood hz hlt;rintro j ⟨hj,hall⟩ R hR;have hlm:((respZ ms w ch).take (j+1)).length=j+1:=by rw[List.length_take];omega
   have q1:=rowF_len zRow ((respZ ms w ch).take (j+1));have q2:=rowF_take zRow ((respZ ms w ch).take (j+1));rw[hlm]at q1 q2
   by_cases hlt:j+1<us.length
   ·have e1:=getD_map vpv us [] hlt;have e2:=getD_map (limP c sl) us [] hlt;have e3:=getD_map Zp w 0 (i:=(j+1)) (by omega)
    have e4:=getD_map Zp ms 0 (i:=(j+1)) (by omega)
    obtain⟨k1,k2,k3⟩:=hb _ (mem_getD [] hlt);have hk:=skind_ok k2;have hlr:=limR_lt hr k3;have hx:=hI (j+1) hlt;have hp:=iMulZ (x:=(ch:Int)) (y:=w.getD (j+1) 0) (by simpa using hch) hx.1
    have ha:=iAddL (x:=ms.getD (j+1) 0) (y:=(ch:Int)*w.getD (j+1) 0) hx.2;have hc:=sbelow_ok k2 (n:=zs (ms.getD (j+1) 0+ch*w.getD (j+1) 0)) (a:=zb (ms.getD (j+1) 0+ch*w.getD (j+1) 0)) (vB (by have:=Int.natAbs_add_le (ms.getD (j+1) 0) (ch*w.getD (j+1) 0);have:=hx.2;omega)) hlr
    rw[num_zb]at hc;have hgr:=getD_resp (ms:=ms) (w:=w) (c:=ch) (i:=(j+1)) (by omega) (by omega)
    clear hx k1 k2 k3 hlr;have hbad:=fun h=>all_bad (p:=fun i=>decide (((respZ ms w ch).getD i 0).natAbs<limR c sl (us.getD i []))) hlt (decide_eq_false h)
    have hgood:(ms.getD (j+1) 0+ch*w.getD (j+1) 0).natAbs<limR c sl (us.getD (j+1) [])→okI c sl us (respZ ms w ch) (j+1):=fun h=>by rw[okI,hgr];exact h
    rw[←inR,hgr]at hbad;generalize us.getD (j+1) []=u at*;simp only[vpv]at e1 hk hc;simp only[limP]at e2;simp only[Zp,ipv,ipz]at e3 e4;generalize limM c sl u=M at*;generalize limR c sl u=Rr at*;have r1:=rS hlt;rw[hgr]at r1
    by_cases hlt2:(ms.getD (j+1) 0+ch*w.getD (j+1) 0).natAbs<Rr
    ·rw[decide_eq_true hlt2]at hc;have hgo:=hR (j+1) ⟨by omega,fun k hk=>by
      by_cases hkj:k<j+1
      ·exact hall k hkj
      ·obtain rfl:k=j+1:=by omega
       exact hgood hlt2⟩ (by omega)
     rw[r1]at hgo;clear hR hall hgood;generalize hz:ms.getD (j+1) 0+ch*w.getD (j+1) 0=z at*;repeat' first|simp only[go_sem,seval,l2,l3,l4,l5,e1,e2,e3,e4,q1,q2]|refine cP hk ?_|refine cP hF ?_|refine cP hp ?_|refine cP ha ?_|refine cP hc ?_|refine sB ?_|(first|apply pX|apply bX)<;>intro hc|refine⟨oD,?_⟩|exact oD|fail
     refine hgo _ ?_
     (refine AS.Le.of (by first|decide|omega) ?_ ?_<;>simp[LeT,LeH,tget,hget,AV.bd,AV.bd.bdL,u8,bd_cellsOf,bcells_bd,icells_bd])
     all_goals exact fun c hc=>by rcases hc with hc|rfl|rfl<;>first|exact bd_row hc|rfl
    ·have hbad:=hbad hlt2;rw[respP,hbad];rw[decide_eq_false hlt2]at hc;clear hR hall hgood;generalize hz:ms.getD (j+1) 0+ch*w.getD (j+1) 0=z at*;repeat' first|simp only[go_sem,seval,l2,l3,l4,l5,e1,e2,e3,e4,q1,q2]|refine cP hk ?_|refine cP hF ?_|refine cP hp ?_|refine cP ha ?_|refine cP hc ?_|refine sB ?_|(first|apply pX|apply bX)<;>intro hc|refine⟨oD,?_⟩|exact oD|fail
     all_goals rfl
   ·have hjl:us.length=j+1:=by omega
    have hgood2:inR c sl us (respZ ms w ch)=true:=all_good fun k hk=>decide_eq_true (hall k (by omega))
    rw[respP,hgood2];have hT:(respZ ms w ch).take (j+1)=respZ ms w ch:=List.take_of_length_le (by omega)
    rw[hT]at q1 q2⊢;have q3:=rowF_all zRow (respZ ms w ch);have q4:=rowF_chunk zRow (respZ ms w ch);rw[hrl,hjl]at q4;rw[hjl];clear hR;repeat' first|simp only[go_sem,seval,l2,hjl,q1,q2,q3,q4,rowF_mapO]|refine sB ?_|(first|apply pX|apply bX)<;>intro hc|refine⟨oD,?_⟩|exact oD|fail
    all_goals rfl
 ·have hbad:=hbad hlt;rw[respP,hbad];rw[decide_eq_false hlt]at hc;generalize hz:ms.getD 0 0+ch*w.getD 0 0=z at*;repeat' first|simp only[go_sem,seval,l2,l3,l4,l5,e1,e2,e3,e4]|refine cP hk ?_|refine cP hF ?_|refine cP hp ?_|refine cP ha ?_|refine cP hc ?_|refine sB ?_|(first|apply pX|apply bX)<;>intro hc|refine⟨oD,?_⟩|exact oD|fail
  all_goals rfl
theorem Respond16_ok {c sl:Bytes} (hr:RuOK c sl) {s:Stm} (hs:StOK s) (h0:s.vars≠[]) {w ms:List Int} {ch:Nat} (hwl:w.length=s.vars.length) (hml:ms.length=s.vars.length) (hch:ch<num c) (hW:inW s.vars (w.map ipz)=true) (hwv: ∀x∈w.map ipz,izok x=true) (hmv: ∀x∈ms.map ipz,izok x=true) (hM: ∀i,i<s.vars.length→(ms.getD i 0).natAbs<limM c sl (s.vars.getD i [])):
  EvP Tryz.prog 58 [.agg [.s c, .s sl],s.pv, .sl (w.map Zp), .sl (ms.map Zp),N ch] (respP c sl s.vars (respZ ms w ch)):=by
 have hb:=hs.v;have nv:=hs.nv;have hbo:=sbounds_ok hr hs h0;have hZ: ∀l:List Int,(l.map ipz).map ipv=l.map Zp:=fun l=>by rw[List.map_map];rfl
 have c8:=num8 hr.lc;have h64:=w64_lim;have hv1:=svalid_ok (w.map ipz) (by rw[List.length_map];omega)
 have hv2:=svalid_ok (ms.map ipz) (by rw[List.length_map];omega)
 have hrg:=sRange_ok hs (w:=w.map ipz) (by rw[List.length_map];exact hwl) hwv
 rw[hZ,List.all_eq_true.2 hwv]at hv1;rw[hZ,List.all_eq_true.2 hmv]at hv2;rw[hZ,hW]at hrg;have hn:=natValid (bts ch);rw[vB (by omega)]at hn
 have hcm:=cmpNN (a:=ch) (b:=num c) (by omega) (by omega)
 rw[N_of hr.vc]at hcm;have hd: ∀ _:True,decide (cmpN ch (num c)≥0)=false:=fun _=>by rw[geD,decide_eq_true hch];rfl
 have hwb: ∀i,i<s.vars.length→(w.getD i 0).natAbs<num (s.vars.getD i []):=fun i hi=>by
  have:=of_decide_eq_true (List.all_eq_true.1 hW i (List.mem_range.2 hi));rw[getD_ipz _ _ (by omega)]at this
  simpa[ipz,num_zb]using this
 have hre:=respond_ok hr hs h0 hwl hml (ch:=ch) (by have:=w64_128;omega) (fun i hi=>by
  obtain⟨k1,k2,k3⟩:=hb _ (mem_getD [] hi);have h1:=hwb i hi;have h2:=hM i hi;have h3:=limM_ok hr k1 k2 k3;refine⟨Nat.lt_trans h1 (num16 k3),?_⟩;have h4:((ch:Int)*w.getD i 0).natAbs≤limM c sl (s.vars.getD i []):=by
   rw[Int.natAbs_mul,Int.natAbs_natCast];refine Nat.le_trans (Nat.mul_le_mul (Nat.le_of_lt hch) (Nat.le_of_lt h1)) ?_;unfold limM;rw[Nat.mul_assoc];exact Nat.le_mul_of_pos_left _ (by have:=hr.s2;omega)
  omega)
 generalize cmpN ch (num c)=cm at*;generalize respZ ms w ch=rs at*;unfold respP at*;obtain⟨gs,us,es⟩:=s;simp only at hb nv h0 hwl hml hM;have hpos:0<us.length:=List.length_pos_iff.2 h0;have l2:(us.map vpv).length=us.length:=List.length_map ..;have l3:(us.map (limP c sl)).length=us.length:=List.length_map ..;have l4:(w.map Zp).length=us.length:=by rw[List.length_map];exact hwl
 have l5:(ms.map Zp).length=us.length:=by rw[List.length_map];exact hml
 clear hs hwv hW hwb h64;unfold Stm.pv at*;simp only at*;refine eW Tryz.call58 Tryz.func58 ?_;repeat' first|simp only[go_sem,seval,l2,l4,l5,hd trivial]|refine cP hbo ?_|refine cP hv1 ?_|refine cP hv2 ?_|refine cP hn ?_|refine cP hcm ?_|refine cP hrg ?_|refine sB ?_|(first|apply pX|apply bX)<;>intro hc|refine⟨oD,?_⟩|exact oD|fail
 refine loop_run (α:=Nat) (fun i=>us.length-i) (fun i=>⟨[(2, .v (.sl (w.map Zp))),(3, .v (.sl (ms.map Zp))),(4, .v (N ch)),(6, .p 1001 0 0),(12, .v (.sl (us.map (limP c sl)))),(68, .v (.sl (us.map vpv))),(69,E' us.length),(70,E' i)],[(1001,⟨0,[.v (.sl (gs.map gpv)), .v (.sl (us.map vpv)), .v (.sl (es.map Eqn.pv))],false,none⟩)],_⟩) (fun i=>i≤us.length) 0 (fun _=>Nat.le_refl _) (Nat.zero_le _) ?_ ?_
 ·exact lE
 ·intro i hi R hR
  by_cases hlt:i<us.length
  ·have hgo:=hR (i+1) (by omega) (by omega)
   have e1:=getD_map vpv us [] hlt;have e2:=getD_map (limP c sl) us [] hlt;have e4:=getD_map Zp ms 0 (i:=i) (by omega)
   obtain⟨k1,k2,k3⟩:=hb _ (mem_getD [] hlt);have h2:=hM i hlt;have hc:=sbelow_ok k2 (n:=zs (ms.getD i 0)) (a:=zb (ms.getD i 0)) (vB (Nat.lt_trans h2 (limM_lt hr k3))) (limM_lt hr k3);rw[num_zb,decide_eq_true h2]at hc;clear hR k1 k2 k3 h2 hM hre hv1 hv2 hmv;generalize us.getD i []=u at*;simp only[vpv]at e1 hc;simp only[limP]at e2;simp only[Zp,ipv,ipz]at e4;repeat' first|simp only[go_sem,seval,l2,l3,l5,e1,e2,e4]|refine cP hc ?_|refine sB ?_|(first|apply pX|apply bX)<;>intro hc|refine⟨oD,?_⟩|exact oD|fail
   refine hgo _ ?_;exact lE
  ·obtain rfl:i=us.length:=by omega
   clear hR hM hmv;generalize inR c sl us rs=b at*;cases b
   ·repeat' first|simp only[go_sem,seval]|refine cP hre ?_|refine sB ?_|(first|apply pX|apply bX)<;>intro hc|refine⟨oD,?_⟩|exact oD|fail
    all_goals rfl
   ·repeat' first|simp only[go_sem,seval]|refine cP hre ?_|refine sB ?_|(first|apply pX|apply bX)<;>intro hc|refine⟨oD,?_⟩|exact oD|fail
    all_goals rfl
end Go.Proofs.YtmledjfbgjnknaaGreatDoor
