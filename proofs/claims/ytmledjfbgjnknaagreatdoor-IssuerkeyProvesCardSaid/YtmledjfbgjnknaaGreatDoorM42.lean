/-
  Part of the proof, part 42. Own work.
-/
import Derived.Test.YtmledjfbgjnknaaGreatDoorM41
set_option linter.all false
namespace Go.Proofs.YtmledjfbgjnknaaGreatDoor
open Go Go.Dom Go.Num
set_option maxRecDepth 100000
set_option maxHeartbeats 16000000
theorem sRange_ok {s:Stm} (hs:StOK s) {w:List (Bool×Bytes)} (hwl:w.length=s.vars.length) (hw: ∀x∈w,izok x=true):EvP Tryz.prog 134 [s.pv, .sl (w.map ipv)] (.b (inW s.vars w)):=by
 have hv:=hs.v;have nv:=hs.nv;have hor:=sorder_ok s (by have:=hs.ng;omega)
 obtain⟨gs,vs,es⟩:=s;simp only at hv hwl nv hor;have l2:(vs.map vpv).length=vs.length:=List.length_map ..;have l5:(w.map ipv).length=vs.length:=by rw[List.length_map];exact hwl
 generalize ordL gs=oq at*;unfold Stm.pv at*;simp only at*;refine eW Tryz.call134 Tryz.func134 ?_;repeat' first|simp only[go_sem,seval,l2]|refine cP hor ?_|refine sB ?_|(first|apply pX|apply bX)<;>intro hc|refine⟨oD,?_⟩|exact oD|fail
 refine loop_run (α:=Nat) (fun i=>vs.length-i) (fun i=>⟨[(1, .v (.sl (w.map ipv))),(2, .p 1000 0 0),(5, .v (.s oq)),(12, .v (.sl (vs.map vpv))),(13,E' vs.length),(14,E' i)],[(1000,⟨0,[.v (.sl (gs.map gpv)), .v (.sl (vs.map vpv)), .v (.sl (es.map Eqn.pv))],false,none⟩)],_⟩) (fun i=>i≤vs.length∧ ∀j,j<i→num (w.getD j d0I).2<num (vs.getD j [])) 0 (fun _=>Nat.le_refl _) ⟨Nat.zero_le _,fun j hj=>by omega⟩ ?_ ?_
 ·exact lE
 ·rintro i ⟨hi,hall⟩ R hR
  by_cases hlt:i<vs.length
  ·have e1:=getD_map vpv vs [] hlt;have e2:=getD_map ipv w d0I (i:=i) (by omega)
   obtain⟨b1,b2,-⟩:=hv _ (mem_getD [] hlt);have kw:=hw _ (mem_getD d0I (show i<w.length by omega))
   have hgo:=fun h=>hR (i+1) ⟨by omega,h⟩ (by omega)
   have hbad:=fun h: ¬num (w.getD i d0I).2<num (vs.getD i [])=>all_bad (p:=fun i=>decide (num (w.getD i d0I).2<num (vs.getD i []))) hlt (decide_eq_false h)
   have hnx:num (w.getD i d0I).2<num (vs.getD i [])→ ∀j,j<i+1→num (w.getD j d0I).2<num (vs.getD j []):=fun h j hj=>by
    by_cases hji:j<i
    ·exact hall j hji
    ·obtain rfl:j=i:=by omega
     exact h
   rw[←inW]at hbad;clear hR hall;generalize vs.getD i []=b at*;obtain⟨x,hx⟩: ∃x,x=w.getD i d0I:=⟨_,rfl⟩;rw[←hx]at e2 kw hbad hnx;clear hx;obtain⟨n,a⟩:=x;simp only[izok,Bool.and_eq_true]at kw hbad hnx;have hk:=skind_ok b2;have hc:=sbelow_ok b2 (n:=n) kw.1 (num_of b1);rw[N_of b1]at hc;simp only[vpv]at e1 hk hc;simp only[ipv]at e2
   by_cases hlt2:num a<num b
   ·have hgo:=hgo (hnx hlt2);rw[decide_eq_true hlt2]at hc;repeat' first|simp only[go_sem,seval,l2,l5,e1,e2]|refine cP hk ?_|refine cP hc ?_|refine sB ?_|(first|apply pX|apply bX)<;>intro hc|refine⟨oD,?_⟩|exact oD|fail
    refine hgo _ ?_;exact lE
   ·rw[hbad hlt2];rw[decide_eq_false hlt2]at hc;repeat' first|simp only[go_sem,seval,l2,l5,e1,e2]|refine cP hk ?_|refine cP hc ?_|refine sB ?_|(first|apply pX|apply bX)<;>intro hc|refine⟨oD,?_⟩|exact oD|fail
  ·obtain rfl:i=vs.length:=by omega
   have hg:inW vs w=true:=all_good fun j hj=>decide_eq_true (hall j hj)
   rw[hg];repeat' first|simp only[go_sem,seval]|refine sB ?_|(first|apply pX|apply bX)<;>intro hc|refine⟨oD,?_⟩|exact oD|fail
def respP (c sl:Bytes) (us:List Bytes) (rs:List Int):PV:=if inR c sl us rs then .tup [.sl (rs.map Zp),E 0]else .tup [.sl [],E 15]
def okI (c sl:Bytes) (us:List Bytes) (rs:List Int) (k:Nat):Prop:=(rs.getD k 0).natAbs<limR c sl (us.getD k [])
theorem respond_ok {c sl:Bytes} (hr:RuOK c sl) {s:Stm} (hs:StOK s) (h0:s.vars≠[]) {w ms:List Int} {ch:Nat} (hwl:w.length=s.vars.length) (hml:ms.length=s.vars.length) (hch:ch<W128) (hI: ∀i,i<s.vars.length→(w.getD i 0).natAbs<W128∧(ms.getD i 0).natAbs+((ch:Int)*w.getD i 0).natAbs<LIM):
  EvP Tryz.prog 136 [s.pv, .sl (s.vars.map (limP c sl)), .sl (w.map Zp), .sl (ms.map Zp),N ch] (respP c sl s.vars (respZ ms w ch)):=by
 have hb:=hs.v;have nv:=hs.nv;obtain⟨gs,us,es⟩:=s;simp only at hb nv h0 hwl hml hI;clear hs;have hpos:0<us.length:=List.length_pos_iff.2 h0;have l2:(us.map vpv).length=us.length:=List.length_map ..;have l3:(us.map (limP c sl)).length=us.length:=List.length_map ..;have l4:(w.map Zp).length=us.length:=by rw[List.length_map];exact hwl
 have l5:(ms.map Zp).length=us.length:=by rw[List.length_map];exact hml
 have hF:=FromZ (n:=ch) (Nat.lt_of_lt_of_le hch w128);have hrl:(respZ ms w ch).length=us.length:=by simp[respZ];omega
 have rS: ∀{j:Nat},j<us.length→rowF Zp ((respZ ms w ch).take (j+1))=rowF Zp ((respZ ms w ch).take j)++[.v (.b (zs ((respZ ms w ch).getD j 0))), .v (.s (zb ((respZ ms w ch).getD j 0)))]:=fun h=>by
  rw[take_succ_getD 0 (by omega),zs_snoc]
 unfold Stm.pv;simp only;refine eW Tryz.call136 Tryz.func136 ?_;repeat' first|simp only[go_sem,seval,l2]|refine sB ?_|(first|apply pX|apply bX)<;>intro hc|refine⟨oD,?_⟩|exact oD|fail
 refine loop_unroll' ?_;have e1:=getD_map vpv us [] hpos;have e2:=getD_map (limP c sl) us [] hpos;have e3:=getD_map Zp w 0 (i:=0) (by omega)
 have e4:=getD_map Zp ms 0 (i:=0) (by omega)
 obtain⟨k1,k2,k3⟩:=hb _ (mem_getD [] hpos);have hk:=skind_ok k2;have hlr:=limR_lt hr k3;have hx:=hI 0 hpos;have hp:=iMulZ (x:=(ch:Int)) (y:=w.getD 0 0) (by simpa using hch) hx.1
 have ha:=iAddL (x:=ms.getD 0 0) (y:=(ch:Int)*w.getD 0 0) hx.2;have hc:=sbelow_ok k2 (n:=zs (ms.getD 0 0+ch*w.getD 0 0)) (a:=zb (ms.getD 0 0+ch*w.getD 0 0)) (vB (by have:=Int.natAbs_add_le (ms.getD 0 0) (ch*w.getD 0 0);have:=hx.2;omega)) hlr
 rw[num_zb]at hc;have hgr:=getD_resp (ms:=ms) (w:=w) (c:=ch) (i:=0) (by omega) (by omega)
 clear hx k1 k2 k3 hlr;have hbad:=fun h=>all_bad (p:=fun i=>decide (((respZ ms w ch).getD i 0).natAbs<limR c sl (us.getD i []))) hpos (decide_eq_false h)
 have hgood:(ms.getD 0 0+ch*w.getD 0 0).natAbs<limR c sl (us.getD 0 [])→okI c sl us (respZ ms w ch) 0:=fun h=>by rw[okI,hgr];exact h
 rw[←inR,hgr]at hbad;generalize us.getD 0 []=u at*;simp only[vpv]at e1 hk hc;simp only[limP]at e2;simp only[Zp,ipv,ipz]at e3 e4;generalize limM c sl u=M at*;generalize limR c sl u=Rr at*;have r1:=rS hpos;rw[hgr]at r1
 by_cases hlt:(ms.getD 0 0+ch*w.getD 0 0).natAbs<Rr
 ·rw[decide_eq_true hlt]at hc;generalize hz:ms.getD 0 0+ch*w.getD 0 0=z at*;repeat' first|simp only[go_sem,seval,l2,l3,l4,l5,e1,e2,e3,e4]|refine cP hk ?_|refine cP hF ?_|refine cP hp ?_|refine cP ha ?_|refine cP hc ?_|refine sB ?_|(first|apply pX|apply bX)<;>intro hc|refine⟨oD,?_⟩|exact oD|fail
  refine loop_run (α:=Nat) (fun j=>us.length-(j+1)) (fun j=>⟨[(1, .v (.sl (us.map (limP c sl)))),(2, .v (.sl (w.map Zp))),(3, .v (.sl (ms.map Zp))),(4, .v (N ch)),(5, .p 1000 0 0),(12, .rs 1059 j 0 (j+1) 2),(28, .v (.sl (us.map vpv))),(29,E' us.length),(30,E' (j+1))],[(1000,⟨0,[.v (.sl (gs.map gpv)), .v (.sl (us.map vpv)), .v (.sl (es.map Eqn.pv))],false,none⟩),(1059,⟨j,rowF Zp ((respZ ms w ch).take (j+1)),true,some 53⟩)],1063⟩) (fun j=>j+1≤us.length∧ ∀k,k<j+1→okI c sl us (respZ ms w ch) k) 0 (fun _=>Nat.le_of_ble_eq_true rfl) ⟨hpos,fun k hk=>by obtain rfl:k=0:=(by omega);exact hgood hlt⟩ ?_ ?_
  ·(refine AS.Le.of (by first|decide|omega) ?_ ?_<;>simp[LeT,LeH,tget,hget,AV.bd,AV.bd.bdL,u8,bd_cellsOf,bcells_bd,icells_bd])
   all_goals exact⟨by rw[r1];rfl,fun c hc=>bd_row hc⟩
  ·clear e1 e2 e3 e4 hk hp ha hc hgr hbad r1 hgood hz hlt;rintro j ⟨hj,hall⟩ R hR;have hlm:((respZ ms w ch).take (j+1)).length=j+1:=by rw[List.length_take];omega
   have q1:=rowF_len zRow ((respZ ms w ch).take (j+1));have q2:=rowF_take zRow ((respZ ms w ch).take (j+1));rw[hlm]at q1 q2
   by_cases hlt:j+1<us.length
   ·have e1:=getD_map vpv us [] hlt;have e2:=getD_map (limP c sl) us [] hlt;have e3:=getD_map Zp w 0 (i:=(j+1)) (by omega)
    have e4:=getD_map Zp ms 0 (i:=(j+1)) (by omega)
    obtain⟨k1,k2,k3⟩:=hb _ (mem_getD [] hlt);have hk:=skind_ok k2;have hlr:=limR_lt hr k3;have hx:=hI (j+1) hlt;have hp:=iMulZ (x:=(ch:Int)) (y:=w.getD (j+1) 0) (by simpa using hch) hx.1
    have ha:=iAddL (x:=ms.getD (j+1) 0) (y:=(ch:Int)*w.getD (j+1) 0) hx.2;have hc:=sbelow_ok k2 (n:=zs (ms.getD (j+1) 0+ch*w.getD (j+1) 0)) (a:=zb (ms.getD (j+1) 0+ch*w.getD (j+1) 0)) (vB (by have:=Int.natAbs_add_le (ms.getD (j+1) 0) (ch*w.getD (j+1) 0);have:=hx.2;omega)) hlr
    rw[num_zb]at hc;have hgr:=getD_resp (ms:=ms) (w:=w) (c:=ch) (i:=(j+1)) (by omega) (by omega)
    clear hx k1 k2 k3 hlr;have hbad:=fun h=>all_bad (p:=fun i=>decide (((respZ ms w ch).getD i 0).natAbs<limR c sl (us.getD i []))) hlt (decide_eq_false h)
    have hgood:(ms.getD (j+1) 0+ch*w.getD (j+1) 0).natAbs<limR c sl (us.getD (j+1) [])→okI c sl us (respZ ms w ch) (j+1):=fun h=>by rw[okI,hgr];exact h
    rw[←inR,hgr]at hbad;generalize us.getD (j+1) []=u at*;simp only[vpv]at e1 hk hc;simp only[limP]at e2;simp only[Zp,ipv,ipz]at e3 e4;generalize limM c sl u=M at*;generalize limR c sl u=Rr at*;have r1:=rS hlt;rw[hgr]at r1
    by_cases hlt2:(ms.getD (j+1) 0+ch*w.getD (j+1) 0).natAbs<Rr
    ·rw[decide_eq_true hlt2]at hc;have hgo:=hR (j+1) ⟨by omega,fun k hk=>by
      by_cases hkj:k<j+1
      ·exact hall k hkj
      ·obtain rfl:k=j+1:=by omega
       exact hgood hlt2⟩ (by omega)
     rw[r1]at hgo;clear hR hall hgood;generalize hz:ms.getD (j+1) 0+ch*w.getD (j+1) 0=z at*;repeat' first|simp only[go_sem,seval,l2,l3,l4,l5,e1,e2,e3,e4,q1,q2]|refine cP hk ?_|refine cP hF ?_|refine cP hp ?_|refine cP ha ?_|refine cP hc ?_|refine sB ?_|(first|apply pX|apply bX)<;>intro hc|refine⟨oD,?_⟩|exact oD|fail
     refine hgo _ ?_
     (refine AS.Le.of (by first|decide|omega) ?_ ?_<;>simp[LeT,LeH,tget,hget,AV.bd,AV.bd.bdL,u8,bd_cellsOf,bcells_bd,icells_bd])
     all_goals exact fun c hc=>by rcases hc with hc|rfl|rfl<;>first|exact bd_row hc|rfl
    ·have hbad:=hbad hlt2;rw[respP,hbad];rw[decide_eq_false hlt2]at hc;clear hR hall hgood;generalize hz:ms.getD (j+1) 0+ch*w.getD (j+1) 0=z at*;repeat' first|simp only[go_sem,seval,l2,l3,l4,l5,e1,e2,e3,e4,q1,q2]|refine cP hk ?_|refine cP hF ?_|refine cP hp ?_|refine cP ha ?_|refine cP hc ?_|refine sB ?_|(first|apply pX|apply bX)<;>intro hc|refine⟨oD,?_⟩|exact oD|fail
     all_goals rfl
   ·have hjl:us.length=j+1:=by omega
    have hgood2:inR c sl us (respZ ms w ch)=true:=all_good fun k hk=>decide_eq_true (hall k (by omega))
    rw[respP,hgood2];have hT:(respZ ms w ch).take (j+1)=respZ ms w ch:=List.take_of_length_le (by omega)
    rw[hT]at q1 q2⊢;have q3:=rowF_all zRow (respZ ms w ch);have q4:=rowF_chunk zRow (respZ ms w ch);rw[hrl,hjl]at q4;rw[hjl];clear hR;repeat' first|simp only[go_sem,seval,l2,hjl,q1,q2,q3,q4,rowF_mapO]|refine sB ?_|(first|apply pX|apply bX)<;>intro hc|refine⟨oD,?_⟩|exact oD|fail
    all_goals rfl
 ·have hbad:=hbad hlt;rw[respP,hbad];rw[decide_eq_false hlt]at hc;generalize hz:ms.getD 0 0+ch*w.getD 0 0=z at*;repeat' first|simp only[go_sem,seval,l2,l3,l4,l5,e1,e2,e3,e4]|refine cP hk ?_|refine cP hF ?_|refine cP hp ?_|refine cP ha ?_|refine cP hc ?_|refine sB ?_|(first|apply pX|apply bX)<;>intro hc|refine⟨oD,?_⟩|exact oD|fail
  all_goals rfl
theorem Respond16_ok {c sl:Bytes} (hr:RuOK c sl) {s:Stm} (hs:StOK s) (h0:s.vars≠[]) {w ms:List Int} {ch:Nat} (hwl:w.length=s.vars.length) (hml:ms.length=s.vars.length) (hch:ch<num c) (hW:inW s.vars (w.map ipz)=true) (hwv: ∀x∈w.map ipz,izok x=true) (hmv: ∀x∈ms.map ipz,izok x=true) (hM: ∀i,i<s.vars.length→(ms.getD i 0).natAbs<limM c sl (s.vars.getD i [])):
  EvP Tryz.prog 58 [.agg [.s c, .s sl],s.pv, .sl (w.map Zp), .sl (ms.map Zp),N ch] (respP c sl s.vars (respZ ms w ch)):=by
 have hb:=hs.v;have nv:=hs.nv;have hbo:=sbounds_ok hr hs h0;have hZ: ∀l:List Int,(l.map ipz).map ipv=l.map Zp:=fun l=>by rw[List.map_map];rfl
 have c8:=num8 hr.lc;have h64:=w64_lim;have hv1:=svalid_ok (w.map ipz) (by rw[List.length_map];omega)
 have hv2:=svalid_ok (ms.map ipz) (by rw[List.length_map];omega)
 have hrg:=sRange_ok hs (w:=w.map ipz) (by rw[List.length_map];exact hwl) hwv
 rw[hZ,List.all_eq_true.2 hwv]at hv1;rw[hZ,List.all_eq_true.2 hmv]at hv2;rw[hZ,hW]at hrg;have hn:=natValid (bts ch);rw[vB (by omega)]at hn
 have hcm:=cmpNN (a:=ch) (b:=num c) (by omega) (by omega)
 rw[N_of hr.vc]at hcm;have hd: ∀ _:True,decide (cmpN ch (num c)≥0)=false:=fun _=>by rw[geD,decide_eq_true hch];rfl
 have hwb: ∀i,i<s.vars.length→(w.getD i 0).natAbs<num (s.vars.getD i []):=fun i hi=>by
  have:=of_decide_eq_true (List.all_eq_true.1 hW i (List.mem_range.2 hi));rw[getD_ipz _ _ (by omega)]at this
  simpa[ipz,num_zb]using this
 have hre:=respond_ok hr hs h0 hwl hml (ch:=ch) (by have:=w64_128;omega) (fun i hi=>by
  obtain⟨k1,k2,k3⟩:=hb _ (mem_getD [] hi);have h1:=hwb i hi;have h2:=hM i hi;have h3:=limM_ok hr k1 k2 k3;refine⟨Nat.lt_trans h1 (num16 k3),?_⟩;have h4:((ch:Int)*w.getD i 0).natAbs≤limM c sl (s.vars.getD i []):=by
   rw[Int.natAbs_mul,Int.natAbs_natCast];refine Nat.le_trans (Nat.mul_le_mul (Nat.le_of_lt hch) (Nat.le_of_lt h1)) ?_;unfold limM;rw[Nat.mul_assoc];exact Nat.le_mul_of_pos_left _ (by have:=hr.s2;omega)
  omega)
 generalize cmpN ch (num c)=cm at*;generalize respZ ms w ch=rs at*;unfold respP at*;obtain⟨gs,us,es⟩:=s;simp only at hb nv h0 hwl hml hM;have hpos:0<us.length:=List.length_pos_iff.2 h0;have l2:(us.map vpv).length=us.length:=List.length_map ..;have l3:(us.map (limP c sl)).length=us.length:=List.length_map ..;have l4:(w.map Zp).length=us.length:=by rw[List.length_map];exact hwl
 have l5:(ms.map Zp).length=us.length:=by rw[List.length_map];exact hml
 clear hs hwv hW hwb h64;unfold Stm.pv at*;simp only at*;refine eW Tryz.call58 Tryz.func58 ?_;repeat' first|simp only[go_sem,seval,l2,l4,l5,hd trivial]|refine cP hbo ?_|refine cP hv1 ?_|refine cP hv2 ?_|refine cP hn ?_|refine cP hcm ?_|refine cP hrg ?_|refine sB ?_|(first|apply pX|apply bX)<;>intro hc|refine⟨oD,?_⟩|exact oD|fail
 refine loop_run (α:=Nat) (fun i=>us.length-i) (fun i=>⟨[(2, .v (.sl (w.map Zp))),(3, .v (.sl (ms.map Zp))),(4, .v (N ch)),(6, .p 1001 0 0),(12, .v (.sl (us.map (limP c sl)))),(68, .v (.sl (us.map vpv))),(69,E' us.length),(70,E' i)],[(1001,⟨0,[.v (.sl (gs.map gpv)), .v (.sl (us.map vpv)), .v (.sl (es.map Eqn.pv))],false,none⟩)],_⟩) (fun i=>i≤us.length) 0 (fun _=>Nat.le_refl _) (Nat.zero_le _) ?_ ?_
 ·exact lE
 ·intro i hi R hR
  by_cases hlt:i<us.length
  ·have hgo:=hR (i+1) (by omega) (by omega)
   have e1:=getD_map vpv us [] hlt;have e2:=getD_map (limP c sl) us [] hlt;have e4:=getD_map Zp ms 0 (i:=i) (by omega)
   obtain⟨k1,k2,k3⟩:=hb _ (mem_getD [] hlt);have h2:=hM i hlt;have hc:=sbelow_ok k2 (n:=zs (ms.getD i 0)) (a:=zb (ms.getD i 0)) (vB (Nat.lt_trans h2 (limM_lt hr k3))) (limM_lt hr k3);rw[num_zb,decide_eq_true h2]at hc;clear hR k1 k2 k3 h2 hM hre hv1 hv2 hmv;generalize us.getD i []=u at*;simp only[vpv]at e1 hc;simp only[limP]at e2;simp only[Zp,ipv,ipz]at e4;repeat' first|simp only[go_sem,seval,l2,l3,l5,e1,e2,e4]|refine cP hc ?_|refine sB ?_|(first|apply pX|apply bX)<;>intro hc|refine⟨oD,?_⟩|exact oD|fail
   refine hgo _ ?_;exact lE
  ·obtain rfl:i=us.length:=by omega
   clear hR hM hmv;generalize inR c sl us rs=b at*;cases b
   ·repeat' first|simp only[go_sem,seval]|refine cP hre ?_|refine sB ?_|(first|apply pX|apply bX)<;>intro hc|refine⟨oD,?_⟩|exact oD|fail
    all_goals rfl
   ·repeat' first|simp only[go_sem,seval]|refine cP hre ?_|refine sB ?_|(first|apply pX|apply bX)<;>intro hc|refine⟨oD,?_⟩|exact oD|fail
    all_goals rfl
theorem plus_zs {b:Int} {c:Nat} (h:(c:Int)*b≠0):zs ((c:Int)*b)=zs b:=by
 have hc:(c:Int)≠0:=fun e=>h (by rw[e,Int.zero_mul])
 unfold zs;rw[decide_eq_decide];constructor
 ·intro g
  by_cases hb:b<0
  ·exact hb
  ·have:=Int.mul_nonneg (Int.natCast_nonneg c) (show 0≤b by omega);omega
 ·intro g;exact Int.mul_neg_of_pos_of_neg (by omega) g
theorem rplus_ok {a b:Int} {c:Nat} (h:a.natAbs+((c:Int)*b).natAbs<LIM) (hc:c<LIM) (hb:b.natAbs<LIM):EvP Tryz.prog 302 [Z a,N c,Z b] (Z (a+c*b)):=by
 have hl: ∀n,n<LIM→(bts n).length<1048576:=fun n hn=>by have:=lim_len.2 hn;omega
 have hX:((c:Int)*b).natAbs=c*b.natAbs:=by rw[Int.natAbs_mul,Int.natAbs_natCast]
 have ht:=rTimesN (x:=c) (y:=b.natAbs) (hl _ hc) (hl _ hb);rw[←hX]at ht;have hyz:=plus_zs (b:=b) (c:=c);obtain⟨y,hy⟩: ∃y:Int,y=c*b:=⟨_,rfl⟩;rw[←hy]at h ht hyz⊢;clear hX hy;have hl2: ∀n,n<LIM→(bts n).length<1099511627776:=fun n hn=>by have:=hl n hn;omega
 by_cases h1:(zs a==zs b||bts y.natAbs==[])=true
 ·have hp:=rPlusN (x:=a.natAbs) (y:=y.natAbs) (hl2 _ (by omega)) (hl2 _ (by omega))
  have hk:=rMakeZ (zs a) (a.natAbs+y.natAbs) (z:=a+y) (by
   by_cases h0:y=0
   ·subst h0;unfold zs;split<;>simp_all<;>omega
   ·refine zadd1 ?_;rw[hyz h0];simp only[Bool.or_eq_true,beq_iff_eq,bts_nil]at h1;rcases h1 with h1|h1
    ·exact h1
    ·omega)
  clear hyz hl hl2 h hc hb;simp only[Bool.or_eq_true,beq_iff_eq]at h1
  by_cases hz:zs a=zs b
  ·have hz1:(zs a==zs b)=true:=by simpa using hz
   refine eW Tryz.call302 Tryz.func302 ?_;repeat' first|simp only[go_sem,seval,Z,hz1]|refine cP ht ?_|refine cP hp ?_|refine cP hk ?_|refine sB ?_|(first|apply pX|apply bX)<;>intro hc|refine⟨oD,?_⟩|exact oD|fail
   all_goals rfl
  ·have hz1:(zs a==zs b)=false:=by simpa using hz
   have hz2:(bts y.natAbs==[])=true:=by simpa using(h1.resolve_left hz)
   refine eW Tryz.call302 Tryz.func302 ?_;repeat' first|simp only[go_sem,seval,Z,hz1,hz2]|refine cP ht ?_|refine cP hp ?_|refine cP hk ?_|refine sB ?_|(first|apply pX|apply bX)<;>intro hc|refine⟨oD,?_⟩|exact oD|fail
   all_goals rfl
 ·simp only[Bool.or_eq_true,beq_iff_eq,not_or]at h1;obtain⟨h1,h2⟩:=h1;have h0:y≠0:=fun e=>h2 (by rw[e];rfl)
  have hyb:=hyz h0;have hz1:(zs a==zs b)=false:=by simpa using h1
  have hz2:(bts y.natAbs==[])=false:=by simpa using h2
  have ho:=rOrderN (x:=a.natAbs) (y:=y.natAbs) (hl2 _ (by omega)) (hl2 _ (by omega))
  have hd:=geD a.natAbs y.natAbs;have hzz:zs a≠zs y:=by rw[hyb];exact h1
  by_cases hle:y.natAbs≤a.natAbs
  ·have hm:=rMinusN (x:=a.natAbs) (y:=y.natAbs) (hl2 _ (by omega)) (hl2 _ (by omega)) hle
   have hk:=rMakeZ (zs a) (a.natAbs-y.natAbs) (zadd2 hzz hle);rw[decide_eq_false (show¬a.natAbs<y.natAbs by omega)]at hd
   generalize cmpN a.natAbs y.natAbs=cm at*;clear hyz hl hl2 h hc hb;refine eW Tryz.call302 Tryz.func302 ?_;repeat' first|simp only[go_sem,seval,Z,hz1,hz2,hd,Bool.not_false]|refine cP ht ?_|refine cP ho ?_|refine cP hm ?_|refine cP hk ?_|refine sB ?_|(first|apply pX|apply bX)<;>intro hc|refine⟨oD,?_⟩|exact oD|fail
   all_goals rfl
  ·have hm:=rMinusN (x:=y.natAbs) (y:=a.natAbs) (hl2 _ (by omega)) (hl2 _ (by omega)) (by omega)
   have hk:=rMakeZ (zs y) (y.natAbs-a.natAbs) (zadd3 hzz (by omega))
   rw[hyb]at hk;rw[decide_eq_true (show a.natAbs<y.natAbs by omega)]at hd
   generalize cmpN a.natAbs y.natAbs=cm at*;clear hyz hl hl2 h hc hb;refine eW Tryz.call302 Tryz.func302 ?_;repeat' first|simp only[go_sem,seval,Z,hz1,hz2,hd,Bool.not_true]|refine cP ht ?_|refine cP ho ?_|refine cP hm ?_|refine cP hk ?_|refine sB ?_|(first|apply pX|apply bX)<;>intro hc|refine⟨oD,?_⟩|exact oD|fail
   all_goals rfl
theorem rResponse_ok {s:Stm} {i:Nat} (hi:i<s.vars.length) (hb:s.vars.getD i []≠[]) {a b:Int} {c:Nat} (h:a.natAbs+((c:Int)*b).natAbs<LIM) (hc:c<LIM) (hbl:b.natAbs<LIM):EvP Tryz.prog 180 [s.pv,E i,Z a,N c,Z b] (Z (a+c*b)):=by
 have hp:=rplus_ok h hc hbl;have hbb:(s.vars.getD i []==([]:Bytes))=false:=by simpa using hb
 have e1:=getD_map vpv s.vars [] hi;have l2:(s.vars.map vpv).length=s.vars.length:=List.length_map ..;generalize s.vars.getD i []=u at*;generalize a+(c:Int)*b=z at*;simp only[vpv]at e1;unfold Stm.pv;refine eW Tryz.call180 Tryz.func180 ?_;repeat' first|simp only[go_sem,seval,Z,hbb,l2,e1]|refine cP hp ?_|refine sB ?_|(first|apply pX|apply bX)<;>intro hc|refine⟨oD,?_⟩|exact oD|fail
 all_goals rfl
theorem rsRange_ok {s:Stm} (hs:StOK s) {w:List (Bool×Bytes)} (hwl:w.length=s.vars.length) (hw: ∀x∈w,izok x=true) (hin:inW s.vars w=true):EvP Tryz.prog 178 [s.pv, .sl (w.map ipv)] (.b true):=by
 have hv:=hs.v;have nv:=hs.nv;have hB:=fun(i:Nat) (hi:i<s.vars.length) (hb:s.vars.getD i []≠[]) (n:Bool) (a:Bytes) (va:validN a=true) (L:Nat) (hL:L<LIM)=>rBelow16_ok (s:=s) hi hb (n:=n) va hL
 obtain⟨gs,vs,es⟩:=s;simp only at hv hwl nv hB hin;have l2:(vs.map vpv).length=vs.length:=List.length_map ..;have l5:(w.map ipv).length=vs.length:=by rw[List.length_map];exact hwl
 unfold Stm.pv at*;simp only at*;refine eW Tryz.call178 Tryz.func178 ?_;repeat' first|simp only[go_sem,seval,l5]|refine sB ?_|(first|apply pX|apply bX)<;>intro hc|refine⟨oD,?_⟩|exact oD|fail
 refine loop_run (α:=Nat) (fun i=>vs.length-i) (fun i=>⟨[(1, .v (.sl (w.map ipv))),(2, .p 1000 0 0),(5,E' i)],[(1000,⟨0,[.v (.sl (gs.map gpv)), .v (.sl (vs.map vpv)), .v (.sl (es.map Eqn.pv))],false,none⟩)],_⟩) (fun i=>i≤vs.length) 0 (fun _=>Nat.le_refl _) (Nat.zero_le _) ?_ ?_
 ·exact lE
 ·intro i hi R hR
  by_cases hlt:i<vs.length
  ·have e1:=getD_map vpv vs [] hlt;have e2:=getD_map ipv w d0I (i:=i) (by omega)
   obtain⟨b1,b2,-⟩:=hv _ (mem_getD [] hlt);have kw:=hw _ (mem_getD d0I (show i<w.length by omega))
   have hgo:=hR (i+1) (by omega) (by omega)
   have hlt2:=of_decide_eq_true (List.all_eq_true.1 hin i (List.mem_range.2 hlt));have hB:=fun n a va L hL=>hB i hlt b2 n a va L hL
   clear hR hin hs;generalize vs.getD i []=b at*;obtain⟨x,hx⟩: ∃x,x=w.getD i d0I:=⟨_,rfl⟩;rw[←hx]at e2 kw hlt2;clear hx;obtain⟨n,a⟩:=x;simp only[izok,Bool.and_eq_true]at kw hlt2;have hc:=hB n a kw.1 (num b) (num_of b1);rw[N_of b1,decide_eq_true hlt2]at hc;have hbb:(b==[])=false:=by simpa using b2
   simp only[vpv]at e1;simp only[ipv]at e2;repeat' first|simp only[go_sem,seval,l2,l5,e1,e2,hbb]|refine cP hc ?_|refine sB ?_|(first|apply pX|apply bX)<;>intro hc|refine⟨oD,?_⟩|exact oD|fail
   refine hgo _ ?_;exact lE
  ·obtain rfl:i=vs.length:=by omega
   repeat' first|simp only[go_sem,seval,l5]|refine sB ?_|(first|apply pX|apply bX)<;>intro hc|refine⟨oD,?_⟩|exact oD|fail
theorem rRespond_ok {c sl:Bytes} (hr:RuOK c sl) {s:Stm} (hs:StOK s) (h0:s.vars≠[]) {w ms:List Int} {ch:Nat} (hwl:w.length=s.vars.length) (hml:ms.length=s.vars.length) (hch:ch<num c) (hW:inW s.vars (w.map ipz)=true) (hwv: ∀x∈w.map ipz,izok x=true) (hmv: ∀x∈ms.map ipz,izok x=true) (hM: ∀i,i<s.vars.length→(ms.getD i 0).natAbs<limM c sl (s.vars.getD i [])):
  EvP Tryz.prog 76 [.agg [.s c, .s sl],s.pv, .sl (w.map Zp), .sl (ms.map Zp),N ch] (respP c sl s.vars (respZ ms w ch)):=by
 have hb:=hs.v;have nv:=hs.nv;have hbo:=r16Bounds_ok hr hs h0;have hZ: ∀l:List Int,(l.map ipz).map ipv=l.map Zp:=fun l=>by rw[List.map_map];rfl
 have c8:=num8 hr.lc;have h64:=w64_lim;have hv1:=rformed16_ok (w.map ipz) (by rw[List.length_map];omega)
 have hv2:=rformed16_ok (ms.map ipz) (by rw[List.length_map];omega)
 have hrg:=rsRange_ok hs (w:=w.map ipz) (by rw[List.length_map];exact hwl) hwv hW
 rw[hZ,List.all_eq_true.2 hwv]at hv1;rw[hZ,List.all_eq_true.2 hmv]at hv2;rw[hZ]at hrg;have hn:=rValid_ok (bts ch);rw[vB (by omega)]at hn
 have hl2: ∀n,n<LIM→(bts n).length<1099511627776:=fun n hn=>by have:=lim_len.2 hn;omega
 have hcm:=rOrderN (x:=ch) (y:=num c) (hl2 _ (by omega)) (hl2 _ (by omega))
 rw[N_of hr.vc]at hcm;have hd: ∀ _:True,decide (cmpN ch (num c)≥0)=false:=fun _=>by rw[geD,decide_eq_true hch];rfl
 have hI: ∀i,i<s.vars.length→(w.getD i 0).natAbs<LIM∧(ms.getD i 0).natAbs+((ch:Int)*w.getD i 0).natAbs<LIM:=fun i hi=>by
  obtain⟨k1,k2,k3⟩:=hb _ (mem_getD [] hi);have h1:(w.getD i 0).natAbs<num (s.vars.getD i []):=by
   have:=of_decide_eq_true (List.all_eq_true.1 hW i (List.mem_range.2 hi));rw[getD_ipz _ _ (by omega)]at this
   simpa[ipz,num_zb]using this
  have h2:=hM i hi;have h3:=limM_ok hr k1 k2 k3;refine⟨Nat.lt_trans h1 (num_of k1),?_⟩;have h4:((ch:Int)*w.getD i 0).natAbs≤limM c sl (s.vars.getD i []):=by
   rw[Int.natAbs_mul,Int.natAbs_natCast];refine Nat.le_trans (Nat.mul_le_mul (Nat.le_of_lt hch) (Nat.le_of_lt h1)) ?_;unfold limM;rw[Nat.mul_assoc];exact Nat.le_mul_of_pos_left _ (by have:=hr.s2;omega)
  omega
 have hRs:=fun(i:Nat) (hi:i<s.vars.length) (hb:s.vars.getD i []≠[]) (a b:Int) (h:a.natAbs+((ch:Int)*b).natAbs<LIM) (hbl:b.natAbs<LIM)=>rResponse_ok (s:=s) hi hb h (show ch<LIM by omega) hbl
 have hB:=fun(i:Nat) (hi:i<s.vars.length) (hb:s.vars.getD i []≠[]) (n:Bool) (a:Bytes) (va:validN a=true) (L:Nat) (hL:L<LIM)=>rBelow16_ok (s:=s) hi hb (n:=n) va hL
 generalize cmpN ch (num c)=cm at*;obtain⟨gs,us,es⟩:=s;simp only at hb nv h0 hwl hml hM hI hRs hB;have hpos:0<us.length:=List.length_pos_iff.2 h0;have l2:(us.map vpv).length=us.length:=List.length_map ..;have l3:(us.map fun b=>N (limM c sl b)).length=us.length:=List.length_map ..
 have l6:(us.map fun b=>N (limR c sl b)).length=us.length:=List.length_map ..
 have l4:(w.map Zp).length=us.length:=by rw[List.length_map];exact hwl
 have l5:(ms.map Zp).length=us.length:=by rw[List.length_map];exact hml
 have hrl:(respZ ms w ch).length=us.length:=by simp[respZ];omega
 have rS: ∀{j:Nat},j<us.length→rowF Zp ((respZ ms w ch).take (j+1))=rowF Zp ((respZ ms w ch).take j)++[.v (.b (zs ((respZ ms w ch).getD j 0))), .v (.s (zb ((respZ ms w ch).getD j 0)))]:=fun h=>by
  rw[take_succ_getD 0 (by omega),zs_snoc]
 clear hs hwv hW h64 c8;unfold Stm.pv at*;simp only at*;refine eW Tryz.call76 Tryz.func76 ?_;repeat' first|simp only[go_sem,seval,l2,l4,l5,hd trivial]|refine cP hbo ?_|refine cP hv1 ?_|refine cP hv2 ?_|refine cP hn ?_|refine cP hcm ?_|refine cP hrg ?_|refine sB ?_|(first|apply pX|apply bX)<;>intro hc|refine⟨oD,?_⟩|exact oD|fail
 refine loop_run (α:=Nat) (fun i=>us.length-i) (fun i=>⟨[(2, .v (.sl (w.map Zp))),(3, .v (.sl (ms.map Zp))),(4, .v (N ch)),(6, .p 1001 0 0),(12, .v (.sl (us.map fun b=>N (limM c sl b)))),(13, .v (.sl (us.map fun b=>N (limR c sl b)))),(15,E' i)],[(1001,⟨0,[.v (.sl (gs.map gpv)), .v (.sl (us.map vpv)), .v (.sl (es.map Eqn.pv))],false,none⟩)],_⟩) (fun i=>i≤us.length) 0 (fun _=>Nat.le_refl _) (Nat.zero_le _) ?_ ?_
 ·exact lE
 ·intro i hi R hR
  by_cases hlt:i<us.length
  ·have hgo:=hR (i+1) (by omega) (by omega)
   have e2:=getD_map (fun b=>N (limM c sl b)) us [] hlt
   have e4:=getD_map Zp ms 0 (i:=i) (by omega)
   obtain⟨k1,k2,k3⟩:=hb _ (mem_getD [] hlt);have h2:=hM i hlt;have hc:=hB i hlt k2 (zs (ms.getD i 0)) (zb (ms.getD i 0)) (vB (Nat.lt_trans h2 (limM_lt hr k3))) _ (limM_lt hr k3);rw[num_zb,decide_eq_true h2]at hc;clear hR k1 k2 k3 h2 hM hRs hB hv1 hv2 hmv hI rS;generalize us.getD i []=u at*;simp only[Zp,ipv,ipz]at e4;repeat' first|simp only[go_sem,seval,l2,l3,l5,e2,e4]|refine cP hc ?_|refine sB ?_|(first|apply pX|apply bX)<;>intro hc|refine⟨oD,?_⟩|exact oD|fail
   refine hgo _ ?_;exact lE
  ·obtain rfl:i=us.length:=by omega
   clear hR hM hmv hv1 hv2 hrg hn hcm hbo;repeat' first|simp only[go_sem,seval,l5]|refine sB ?_|(first|apply pX|apply bX)<;>intro hc|refine⟨oD,?_⟩|exact oD|fail
   refine loop_unroll' ?_;have e3:=getD_map Zp w 0 (i:=0) (by omega)
   have e4:=getD_map Zp ms 0 (i:=0) (by omega)
   have e2:=getD_map (fun b=>N (limR c sl b)) us [] hpos
   obtain⟨k1,k2,k3⟩:=hb _ (mem_getD [] hpos);have hlr:=limR_lt hr k3;have hx:=hI 0 hpos;have hp:=hRs 0 hpos k2 (ms.getD 0 0) (w.getD 0 0) hx.2 hx.1;have hc:=hB 0 hpos k2 (zs (ms.getD 0 0+ch*w.getD 0 0)) (zb (ms.getD 0 0+ch*w.getD 0 0)) (vB (by have:=Int.natAbs_add_le (ms.getD 0 0) (ch*w.getD 0 0);have:=hx.2;omega)) _ hlr
   rw[num_zb]at hc;have hgr:=getD_resp (ms:=ms) (w:=w) (c:=ch) (i:=0) (by omega) (by omega)
   clear hx k1 k2 k3 hlr;have hbad:=fun h=>all_bad (p:=fun i=>decide (((respZ ms w ch).getD i 0).natAbs<limR c sl (us.getD i []))) hpos (decide_eq_false h)
   have hgood:(ms.getD 0 0+ch*w.getD 0 0).natAbs<limR c sl (us.getD 0 [])→okI c sl us (respZ ms w ch) 0:=fun h=>by rw[okI,hgr];exact h
   rw[←inR,hgr]at hbad;generalize us.getD 0 []=u at*;simp only[Zp,ipv,ipz]at e3 e4;generalize limR c sl u=Rr at*;have r1:=rS hpos;rw[hgr]at r1
   by_cases hlt:(ms.getD 0 0+ch*w.getD 0 0).natAbs<Rr
   ·rw[decide_eq_true hlt]at hc;generalize hz:ms.getD 0 0+ch*w.getD 0 0=z at*;repeat' first|simp only[go_sem,seval,l2,l4,l5,l6,e2,e3,e4]|refine cP hp ?_|refine cP hc ?_|refine sB ?_|(first|apply pX|apply bX)<;>intro hc|refine⟨oD,?_⟩|exact oD|fail
    refine loop_run (α:=Nat) (fun j=>us.length-(j+1)) (fun j=>⟨[(2, .v (.sl (w.map Zp))),(3, .v (.sl (ms.map Zp))),(4, .v (N ch)),(6, .p 1001 0 0),(13, .v (.sl (us.map fun b=>N (limR c sl b)))),(16, .rs 1091 j 0 (j+1) 2),(17,E' (j+1))],[(1001,⟨0,[.v (.sl (gs.map gpv)), .v (.sl (us.map vpv)), .v (.sl (es.map Eqn.pv))],false,none⟩),(1091,⟨j,rowF Zp ((respZ ms w ch).take (j+1)),true,some 53⟩)],1096⟩) (fun j=>j+1≤us.length∧ ∀k,k<j+1→okI c sl us (respZ ms w ch) k) 0 (fun _=>Nat.le_of_ble_eq_true rfl) ⟨hpos,fun k hk=>by obtain rfl:k=0:=(by omega);exact hgood hlt⟩ ?_ ?_
    ·(refine AS.Le.of (by first|decide|omega) ?_ ?_<;>simp[LeT,LeH,tget,hget,AV.bd,AV.bd.bdL,u8,bd_cellsOf,bcells_bd,icells_bd])
     all_goals exact⟨by rw[r1];rfl,fun c hc=>bd_row hc⟩
    ·clear e2 e3 e4 hp hc hgr hbad r1 hgood hz hlt;rintro j ⟨hj,hall⟩ R hR;have hlm:((respZ ms w ch).take (j+1)).length=j+1:=by rw[List.length_take];omega
     have q1:=rowF_len zRow ((respZ ms w ch).take (j+1));have q2:=rowF_take zRow ((respZ ms w ch).take (j+1));rw[hlm]at q1 q2
     by_cases hlt:j+1<us.length
     ·have e3:=getD_map Zp w 0 (i:=(j+1)) (by omega)
      have e4:=getD_map Zp ms 0 (i:=(j+1)) (by omega)
      have e2:=getD_map (fun b=>N (limR c sl b)) us [] hlt
      obtain⟨k1,k2,k3⟩:=hb _ (mem_getD [] hlt);have hlr:=limR_lt hr k3;have hx:=hI (j+1) hlt;have hp:=hRs (j+1) hlt k2 (ms.getD (j+1) 0) (w.getD (j+1) 0) hx.2 hx.1;have hc:=hB (j+1) hlt k2 (zs (ms.getD (j+1) 0+ch*w.getD (j+1) 0)) (zb (ms.getD (j+1) 0+ch*w.getD (j+1) 0)) (vB (by have:=Int.natAbs_add_le (ms.getD (j+1) 0) (ch*w.getD (j+1) 0);have:=hx.2;omega)) _ hlr
      rw[num_zb]at hc;have hgr:=getD_resp (ms:=ms) (w:=w) (c:=ch) (i:=(j+1)) (by omega) (by omega)
      clear hx k1 k2 k3 hlr;have hbad:=fun h=>all_bad (p:=fun i=>decide (((respZ ms w ch).getD i 0).natAbs<limR c sl (us.getD i []))) hlt (decide_eq_false h)
      have hgood:(ms.getD (j+1) 0+ch*w.getD (j+1) 0).natAbs<limR c sl (us.getD (j+1) [])→okI c sl us (respZ ms w ch) (j+1):=fun h=>by rw[okI,hgr];exact h
      rw[←inR,hgr]at hbad;generalize us.getD (j+1) []=u at*;simp only[Zp,ipv,ipz]at e3 e4;generalize limR c sl u=Rr at*;have r1:=rS hlt;rw[hgr]at r1
      by_cases hlt2:(ms.getD (j+1) 0+ch*w.getD (j+1) 0).natAbs<Rr
      ·rw[decide_eq_true hlt2]at hc;have hgo:=hR (j+1) ⟨by omega,fun k hk=>by
        by_cases hkj:k<j+1
        ·exact hall k hkj
        ·obtain rfl:k=j+1:=by omega
         exact hgood hlt2⟩ (by omega)
       rw[r1]at hgo;clear hR hall hgood;generalize hz:ms.getD (j+1) 0+ch*w.getD (j+1) 0=z at*;repeat' first|simp only[go_sem,seval,l2,l4,l5,l6,e2,e3,e4,q1,q2]|refine cP hp ?_|refine cP hc ?_|refine sB ?_|(first|apply pX|apply bX)<;>intro hc|refine⟨oD,?_⟩|exact oD|fail
       refine hgo _ ?_
       (refine AS.Le.of (by first|decide|omega) ?_ ?_<;>simp[LeT,LeH,tget,hget,AV.bd,AV.bd.bdL,u8,bd_cellsOf,bcells_bd,icells_bd])
       all_goals exact fun c hc=>by rcases hc with hc|rfl|rfl<;>first|exact bd_row hc|rfl
      ·have hbad:=hbad hlt2;rw[respP,hbad];rw[decide_eq_false hlt2]at hc;clear hR hall hgood;generalize hz:ms.getD (j+1) 0+ch*w.getD (j+1) 0=z at*;repeat' first|simp only[go_sem,seval,l2,l4,l5,l6,e2,e3,e4,q1,q2]|refine cP hp ?_|refine cP hc ?_|refine sB ?_|(first|apply pX|apply bX)<;>intro hc|refine⟨oD,?_⟩|exact oD|fail
       all_goals rfl
     ·have hjl:us.length=j+1:=by omega
      have hgood2:inR c sl us (respZ ms w ch)=true:=all_good fun k hk=>decide_eq_true (hall k (by omega))
      rw[respP,hgood2];have hT:(respZ ms w ch).take (j+1)=respZ ms w ch:=List.take_of_length_le (by omega)
      rw[hT]at q1 q2⊢;have q3:=rowF_all zRow (respZ ms w ch);have q4:=rowF_chunk zRow (respZ ms w ch);rw[hrl,hjl]at q4;clear hR;repeat' first|simp only[go_sem,seval,l4,hjl,q1,q2,q3,q4,rowF_mapO]|refine sB ?_|(first|apply pX|apply bX)<;>intro hc|refine⟨oD,?_⟩|exact oD|fail
      all_goals rfl
   ·have hbad:=hbad hlt;rw[respP,hbad];rw[decide_eq_false hlt]at hc;generalize hz:ms.getD 0 0+ch*w.getD 0 0=z at*;repeat' first|simp only[go_sem,seval,l2,l4,l5,l6,e2,e3,e4]|refine cP hp ?_|refine cP hc ?_|refine sB ?_|(first|apply pX|apply bX)<;>intro hc|refine⟨oD,?_⟩|exact oD|fail
    all_goals rfl
end Go.Proofs.YtmledjfbgjnknaaGreatDoor
