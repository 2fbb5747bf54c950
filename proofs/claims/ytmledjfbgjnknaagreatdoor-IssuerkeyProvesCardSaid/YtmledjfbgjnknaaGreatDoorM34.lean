/-
  Part of the proof, part 34. Own work.
-/
import Derived.Test.YtmledjfbgjnknaaGreatDoorM33
set_option linter.all false
namespace Go.Proofs.YtmledjfbgjnknaaGreatDoor
open Go Go.Dom
set_option maxRecDepth 100000
set_option maxHeartbeats 16000000
theorem imgQ_at {s:Stm} {w:List (Bool×Bytes)} {i:Nat} (h:i<s.eqs.length):(imgL s w).getD i []=bts (imgQ s.groups w i (s.eqs.getD i d0Q)):=by
 simp[imgL,List.getD_eq_getElem?_getD,h]
theorem imgL_len (s:Stm) (w:List (Bool×Bytes)):(imgL s w).length=s.eqs.length:=by simp[imgL]
theorem rowS_get {l:List Bytes} {i:Nat} (h:i<l.length):rowF PV.s (l.take (i+1))=rowF PV.s (l.take i)++[.v (.s (l.getD i []))]:=by
 rw[take_succ_getD [] h,rowF_snoc];rfl
theorem images_ok {s:Stm} (hs:StOK s) (h0:s.eqs≠[]) (ho:OneS s) {w:List (Bool×Bytes)} (hwl:w.length=s.vars.length) (hw: ∀x∈w,izok x=true):EvP Tryz.prog 225 [s.pv, .sl (w.map ipv)] (.tup [.sl ((imgL s w).map .s),E 0]):=by
 obtain⟨L,hLd⟩: ∃L,L=imgL s w:=⟨_,rfl⟩;have hI:=fun i h=>(show L.getD i []=bts (imgQ s.groups w i (s.eqs.getD i d0Q))from hLd▸imgQ_at h)
 have hL:L.length=s.eqs.length:=by rw[hLd,imgL_len]
 rw[←hLd];clear hLd;obtain⟨hol,ho⟩:=ho;rw[←hol]at hwl;obtain⟨gs,vs,es⟩:=s;obtain⟨hg,hv,hq,ng,nv,ne⟩:=hs;simp only at hg hv hq ng nv ne h0 hwl ho hI hL hol;have hpos:0<es.length:=List.length_pos_iff.2 h0;have l1:(gs.map gpv).length=gs.length:=List.length_map ..;have l3:(es.map Eqn.pv).length=es.length:=List.length_map ..;have l5:(w.map ipv).length=w.length:=List.length_map ..;unfold Stm.pv;simp only;refine eW Tryz.call225 Tryz.func225 ?_;repeat' first|simp only[go_sem,seval,l3]|refine sB ?_|(first|apply pX|apply bX)<;>intro hc|refine⟨oD,?_⟩|exact oD|fail
 refine loop_unroll' ?_;have e1:=getD_map Eqn.pv es d0Q hpos;obtain⟨q1,q2,q3,q4,q5⟩:=hq _ (mem_getD d0Q hpos);obtain⟨b,hb⟩:=ho 0 hpos;have r1:=rowS_get (l:=L) (i:=0) (by rw[hL];exact hpos)
 have r2:=hI 0 hpos;obtain⟨x,hx⟩: ∃x,x=es.getD 0 d0Q:=⟨_,rfl⟩;rw[←hx]at e1 q1 q2 q3 q4 q5 hb r2;clear hx;obtain⟨gr,tg,ts⟩:=x;simp only at q1 q2 q3 q4 q5 hb;subst hb;have hgl:gr.toNat<gs.length:=by omega
 have kg:=hg _ (mem_getD d0G hgl);have e3:=getD_map gpv gs d0G hgl;have q6:=(q5 (tm1 b 0) (by simp)).2.2.1
 rw[imgQ]at r2;simp only[List.headD_cons,tm1]at r2 q6;obtain⟨z,hz⟩: ∃z,z=gs.getD gr.toNat d0G:=⟨_,rfl⟩;rw[←hz]at q6 kg e3 r2;clear hz q3 q5;obtain⟨m,o⟩:=z;simp only at q6 kg r2;obtain⟨vb,gb⟩:=(gHas_iff kg.1).1 q6;have hiw:0<w.length:=by rw[hwl];exact hpos
 have kw:=hw _ (mem_getD d0I hiw);have hcl:=fun nm=>collect_ok 1001 nm gr tg b hiw kw
 obtain⟨y,hy⟩: ∃y,y=w.getD 0 d0I:=⟨_,rfl⟩;rw[←hy]at kw hcl r2;clear hy;obtain⟨n,a⟩:=y;simp only[izok,Bool.and_eq_true,Bool.not_eq_true']at kw r2;have xe:=gProd_ok kg.2.1 kg.2.2 kg.1 gb kw.1 kw.2;rw[N_of vb]at xe;have xe:EvP Tryz.prog 102 [G m o, .sl [.s b], .sl [.agg [.b n, .s a]]] (.tup [.s (L.getD 0 []),E 0]):=by rw[r2];exact xe
 clear r2 kw gb vb kg q6;simp only[gpv]at e3;simp only[Eqn.pv,tm1,List.map_cons,List.map_nil,Trm.pv]at e1 hcl;simp only[ipv]at hcl;repeat' first|simp only[go_sem,seval,l1,l3,e1,e3,Eqn.pv,Trm.pv,viewN]|(refine CR_eff (hcl _) (by simp[hget]) ?_)|refine cP xe ?_|refine sB ?_|(first|apply pX|apply bX)<;>intro hc|refine⟨oD,?_⟩|exact oD|fail
 have hM:RowOK PV.s 1:=RowOK.s;refine loop_run (α:=Nat) (fun j=>es.length-(j+1)) (fun j=>⟨[(2, .p 1000 0 0),(6, .fn (.func 346) [] [.p 1001 0 0]),(7, .rs 1047 j 0 (j+1) 1),(16, .v (.sl (es.map Eqn.pv))),(17,E' es.length),(18,E' (j+1))],[(1000,⟨0,[.v (.sl (gs.map gpv)), .v (.sl (vs.map vpv)), .v (.sl (es.map Eqn.pv))],false,none⟩),(1001,⟨0,[.v (.sl (w.map ipv))],false,none⟩),(1047,⟨j,rowF PV.s (L.take (j+1)),true,some 22⟩)],1051⟩) (fun j=>j+1≤es.length) 0 (fun _=>Nat.le_of_ble_eq_true rfl) hpos ?_ ?_
 ·rw[Nat.zero_add,r1,List.take_zero,show rowF PV.s ([]:List Bytes)=[]from rfl]
  exact lE
 ·clear e1 e3 q1 q2 q4 xe hcl r1;intro i hi R hR;have hj1:(L.take (i+1)).length=i+1:=by rw[List.length_take];omega
  have p1:=rowF_len hM (L.take (i+1));have p2:=rowF_take hM (L.take (i+1));rw[hj1,Nat.mul_one]at p1 p2
  by_cases hlt:i+1<es.length
  ·have hgo:=hR (i+1) (by omega) (by omega)
   clear hR;have e1:=getD_map Eqn.pv es d0Q hlt;obtain⟨q1,q2,q3,q4,q5⟩:=hq _ (mem_getD d0Q hlt);obtain⟨b,hb⟩:=ho (i+1) hlt;have r1:=rowS_get (l:=L) (i:=(i+1)) (by rw[hL];exact hlt)
   have r2:=hI (i+1) hlt;obtain⟨x,hx⟩: ∃x,x=es.getD (i+1) d0Q:=⟨_,rfl⟩;rw[←hx]at e1 q1 q2 q3 q4 q5 hb r2;clear hx;obtain⟨gr,tg,ts⟩:=x;simp only at q1 q2 q3 q4 q5 hb;subst hb;have hgl:gr.toNat<gs.length:=by omega
   have kg:=hg _ (mem_getD d0G hgl);have e3:=getD_map gpv gs d0G hgl;have q6:=(q5 (tm1 b (i+1)) (by simp)).2.2.1
   rw[imgQ]at r2;simp only[List.headD_cons,tm1]at r2 q6;obtain⟨z,hz⟩: ∃z,z=gs.getD gr.toNat d0G:=⟨_,rfl⟩;rw[←hz]at q6 kg e3 r2;clear hz q3 q5;obtain⟨m,o⟩:=z;simp only at q6 kg r2;obtain⟨vb,gb⟩:=(gHas_iff kg.1).1 q6;have hiw:(i+1)<w.length:=by rw[hwl];exact hlt
   have kw:=hw _ (mem_getD d0I hiw);have hcl:=fun nm=>collect_ok 1001 nm gr tg b hiw kw
   obtain⟨y,hy⟩: ∃y,y=w.getD (i+1) d0I:=⟨_,rfl⟩;rw[←hy]at kw hcl r2;clear hy;obtain⟨n,a⟩:=y;simp only[izok,Bool.and_eq_true,Bool.not_eq_true']at kw r2;have xe:=gProd_ok kg.2.1 kg.2.2 kg.1 gb kw.1 kw.2;rw[N_of vb]at xe;have xe:EvP Tryz.prog 102 [G m o, .sl [.s b], .sl [.agg [.b n, .s a]]] (.tup [.s (L.getD (i+1) []),E 0]):=by rw[r2];exact xe
   clear r2 kw gb vb kg q6;simp only[gpv]at e3;simp only[Eqn.pv,tm1,List.map_cons,List.map_nil,Trm.pv]at e1 hcl;simp only[ipv]at hcl;rw[r1]at hgo;repeat' first|simp only[go_sem,seval,l1,l3,e1,e3,Eqn.pv,Trm.pv,viewN,p1,p2]|(refine CR_eff (hcl _) (by simp[hget]) ?_)|refine cP xe ?_|refine sB ?_|(first|apply pX|apply bX)<;>intro hc|refine⟨oD,?_⟩|exact oD|fail
   all_goals skip
   refine hgo _ ?_
   (refine AS.Le.of (by first|decide|omega) ?_ ?_<;>simp[LeT,LeH,tget,hget,AV.bd,AV.bd.bdL,u8,bd_cellsOf,bcells_bd,icells_bd])
   all_goals (intro c hc;rcases hc with h|h<;>first|exact bd_row h|(subst h;rfl))
  ·obtain hjv:i+1=es.length:=by omega
   rw[hjv]at p1 p2;have hLt:L.take es.length=L:=List.take_of_length_le (by omega)
   rw[hLt]at p1 p2;rw[hjv,hLt];have p3:=rowF_all hM L;have p4:=rowF_chunk hM L;rw[hL]at p4;repeat' first|simp only[go_sem,seval,l3,p1,p2,p3,p4,rowF_mapO]|refine sB ?_|(first|apply pX|apply bX)<;>intro hc|refine⟨oD,?_⟩|exact oD|fail
   all_goals exact congrArg (fun l=>PV.tup [PV.sl l,E 0]) p4
theorem Images_ok {s:Stm} (hs:StOK s) (h0:s.eqs≠[]) (ho:OneS s) {w:List (Bool×Bytes)} (hw6:w.length<1000000):EvP Tryz.prog 122 [s.pv, .sl (w.map ipv)] (.tup [.sl ((if w.all izok&&decide (w.length=s.vars.length)then imgL s w else[]).map .s),E (if !(w.all izok)then 3 else if w.length≠s.vars.length then 6 else 0)]):=by
 have hr:=lready_ok hs hw6
 by_cases h1:w.all izok=true
 ·by_cases h2:w.length=s.vars.length
  ·have hi:=images_ok hs h0 ho h2 (List.all_eq_true.1 h1);simp only[h1,h2,Bool.not_true,Bool.false_eq_true,if_false,ne_eq,not_true_eq_false,decide_true,Bool.and_self,if_true]at hr⊢;generalize imgL s w=L at*;obtain⟨gs,vs,es⟩:=s;simp only[Stm.pv]at hr hi⊢;refine eW Tryz.call122 Tryz.func122 ?_;repeat' first|simp only[go_sem,seval]|refine cP hr ?_|refine cP hi ?_|refine sB ?_|(first|apply pX|apply bX)<;>intro hc|refine⟨oD,?_⟩|exact oD|fail
  ·simp only[h1,h2,Bool.not_true,Bool.false_eq_true,if_false,ne_eq,not_false_eq_true,decide_false,Bool.and_false,if_true,List.map_nil]at hr⊢;obtain⟨gs,vs,es⟩:=s;simp only[Stm.pv]at hr⊢;refine eW Tryz.call122 Tryz.func122 ?_;repeat' first|simp only[go_sem,seval]|refine cP hr ?_|refine sB ?_|(first|apply pX|apply bX)<;>intro hc|refine⟨oD,?_⟩|exact oD|fail
 ·have h1:w.all izok=false:=Bool.eq_false_iff.2 h1;simp only[h1,Bool.not_false,if_true,Bool.false_and,Bool.false_eq_true,if_false,List.map_nil]at hr⊢;obtain⟨gs,vs,es⟩:=s;simp only[Stm.pv]at hr⊢;refine eW Tryz.call122 Tryz.func122 ?_;repeat' first|simp only[go_sem,seval]|refine cP hr ?_|refine sB ?_|(first|apply pX|apply bX)<;>intro hc|refine⟨oD,?_⟩|exact oD|fail
theorem rIMul1_ok {n:Bool} {a:Bytes} (h:izok (n,a)=true):EvP Tryz.prog 284 [.agg [.b false, .s [1]], .agg [.b n, .s a]] (.tup [.agg [.b n, .s a],E 0]):=by
 simp only[izok,Bool.and_eq_true,Bool.not_eq_true']at h;obtain⟨va,hz⟩:=h;have v1:EvP Tryz.prog 160 [.agg [.b false, .s [1]]] (.b true):=rIValid_ok false [1];have v2:=rIValid_ok n a;rw[va,hz]at v2;have hm:=rMul_ok [1] a;have e1:mulB [1] a=(a,0):=by
  have hl:num [1]=1:=rfl;have hlt:=num_lt a;have hla:=len_of va;unfold mulB;rw[va,hl,Nat.one_mul,if_pos (by decide),if_pos (show num a<LIM from Nat.lt_of_lt_of_le hlt (Nat.pow_le_pow_right (by decide) hla)),bts_of va]
 rw[e1]at hm;have hk:=rMake_ok n a;have e2:(n&& !(a==[]))=n:=by
  cases n
  ·rfl
  ·simp at hz⊢;exact hz
 rw[e2]at hk;have e3:(!(false==n))=n:=by cases n<;>rfl
 refine eW Tryz.call284 Tryz.func284 ?_;repeat' first|simp only[go_sem,seval,e3]|refine cP v1 ?_|refine cP v2 ?_|refine cP hm ?_|refine cP hk ?_|refine sB ?_|(first|apply pX|apply bX)<;>intro hc|refine⟨oD,?_⟩|exact oD|fail
 all_goals skip
theorem rcheck15_ok {s:Stm} (hs:StOK s) {w:List (Bool×Bytes)} (hw:w.length<1000000):EvP Tryz.prog 161 [s.pv, .sl (w.map ipv)] (E (if !(w.all izok)then 3 else if w.length≠s.vars.length then 6 else 0)):=by
 have h1:=rformed_ok hs;have h2:=rmany_ok hs;have h3:=relements_ok hs;have h4:=rtyped_ok hs;have hr:EvP Tryz.prog 283 [s.pv] (E 0):=by
  unfold Stm.pv at*;refine eW Tryz.call283 Tryz.func283 ?_;repeat' first|simp only[go_sem,seval]|refine cP h2 ?_|refine cP h3 ?_|refine cP h4 ?_|refine sB ?_|(first|apply pX|apply bX)<;>intro hc|refine⟨oD,?_⟩|exact oD|fail
 clear h2 h3 h4 hs;have l1:(w.map ipv).length=w.length:=List.length_map ..;obtain⟨gs,vs,es⟩:=s;have l2:(vs.map vpv).length=vs.length:=List.length_map ..;simp only[Stm.pv]at h1 hr⊢;refine eW Tryz.call161 Tryz.func161 ?_;repeat' first|simp only[go_sem,seval,l1]|refine cP h1 ?_|refine sB ?_|(first|apply pX|apply bX)<;>intro hc|refine⟨oD,?_⟩|exact oD|fail
 refine loop_run (α:=Nat) (fun i=>w.length-i) (fun i=>⟨[(1, .v (.sl (w.map ipv))),(2, .p 1000 0 0),(5,E' i)],[(1000,⟨0,[.v (.sl (gs.map gpv)), .v (.sl (vs.map vpv)), .v (.sl (es.map Eqn.pv))],false,none⟩)],_⟩) (fun i=>i≤w.length∧(w.drop i).all izok=w.all izok) 0 (fun _=>Nat.le_refl _) ⟨Nat.zero_le _,rfl⟩ ?_ ?_
 ·exact lE
 ·rintro i ⟨hi,hf⟩ R hR;rw[←hf]
  by_cases hlt:i<w.length
  ·have e1:=getD_map ipv w d0I hlt;have hgo:=hR (i+1);rw[←hf]at hgo;rw[drop_getD d0I hlt,List.all_cons]at hgo⊢;obtain⟨x,hx⟩: ∃x,x=w.getD i d0I:=⟨_,rfl⟩;rw[←hx]at e1 hgo⊢;clear hx hf hR;obtain⟨n,a⟩:=x;have hv:=rIValid_ok n a;have e:izok (n,a)=(validN a&& !(n&&a==[])):=rfl;rw[e]at hgo⊢;simp only[ipv]at e1;generalize (validN a&& !(n&&a==[]))=b at*;cases b
   ·clear hgo;repeat' first|simp only[go_sem,seval,l1,e1]|refine cP hv ?_|refine sB ?_|(first|apply pX|apply bX)<;>intro hc|refine⟨oD,?_⟩|exact oD|fail
    all_goals rfl
   ·have hgo:=hgo ⟨by omega,by simp⟩ (by omega)
    repeat' first|simp only[go_sem,seval,l1,e1]|refine cP hv ?_|refine sB ?_|(first|apply pX|apply bX)<;>intro hc|refine⟨oD,?_⟩|exact oD|fail
    refine hgo _ ?_;exact lE
  ·obtain rfl:i=w.length:=by omega
   clear hR hf;rw[List.drop_length]
   by_cases hl:w.length=vs.length
   ·repeat' first|simp only[go_sem,seval,l1,l2]|refine cP hr ?_|refine sB ?_|(first|apply pX|apply bX)<;>intro hc|refine⟨oD,?_⟩|exact oD|fail
    all_goals simp[hl]
   ·repeat' first|simp only[go_sem,seval,l1,l2]|refine cP hr ?_|refine sB ?_|(first|apply pX|apply bX)<;>intro hc|refine⟨oD,?_⟩|exact oD|fail
    all_goals simp[hl]
theorem rProd1_ok {m:Bytes} (lm:m.length≤8) {o:Bytes} (lo:o.length≤8) (hE:gE m o=0) {x:Nat} {ng:Bool} {e:Bytes} (hx:GP m o x) (he:validN e=true) (hz:(ng&&e==[])=false):EvP Tryz.prog 285 [G m o, .sl [N x], .sl [.agg [.b ng, .s e]]] (.tup [N (powZ (num m) x ng (num e)),E 0]):=by
 have h:=r13Product_ok lm lo hE [(x,ng,e)] (show 1<1000000 by decide) (fun p hp=>by obtain rfl:=List.mem_singleton.1 hp;exact⟨hx,he,hz⟩)
 have e1:prodF (num m) 1 [(x,ng,e)]=powZ (num m) x ng (num e):=by
  show 1*powZ (num m) x ng (num e)%num m= _;rw[Nat.one_mul,powZ,Nat.mod_mod]
 rw[e1]at h;exact h
theorem rimages_ok {s:Stm} (hs:StOK s) (h0:s.eqs≠[]) (ho:OneS s) {w:List (Bool×Bytes)} (hwl:w.length=s.vars.length) (hw: ∀x∈w,izok x=true):EvP Tryz.prog 162 [s.pv, .sl (w.map ipv)] (.tup [.sl ((imgL s w).map .s),E 0]):=by
 obtain⟨L,hLd⟩: ∃L,L=imgL s w:=⟨_,rfl⟩;have hI:=fun i h=>(show L.getD i []=bts (imgQ s.groups w i (s.eqs.getD i d0Q))from hLd▸imgQ_at h)
 have hL:L.length=s.eqs.length:=by rw[hLd,imgL_len]
 rw[←hLd];clear hLd;obtain⟨hol,ho⟩:=ho;rw[←hol]at hwl;obtain⟨gs,vs,es⟩:=s;obtain⟨hg,hv,hq,ng,nv,ne⟩:=hs;simp only at hg hv hq ng nv ne h0 hwl ho hI hL hol;have hpos:0<es.length:=List.length_pos_iff.2 h0;have l1:(gs.map gpv).length=gs.length:=List.length_map ..;have l3:(es.map Eqn.pv).length=es.length:=List.length_map ..;have l5:(w.map ipv).length=w.length:=List.length_map ..;unfold Stm.pv;simp only;refine eW Tryz.call162 Tryz.func162 ?_;repeat' first|simp only[go_sem,seval,l3]|refine sB ?_|(first|apply pX|apply bX)<;>intro hc|refine⟨oD,?_⟩|exact oD|fail
 refine loop_unroll' ?_;have e1:=getD_map Eqn.pv es d0Q hpos;obtain⟨q1,q2,q3,q4,q5⟩:=hq _ (mem_getD d0Q hpos);obtain⟨b,hb⟩:=ho 0 hpos;have r1:=rowS_get (l:=L) (i:=0) (by rw[hL];exact hpos)
 have r2:=hI 0 hpos;obtain⟨x,hx⟩: ∃x,x=es.getD 0 d0Q:=⟨_,rfl⟩;rw[←hx]at e1 q1 q2 q3 q4 q5 hb r2;clear hx;obtain⟨gr,tg,ts⟩:=x;simp only at q1 q2 q3 q4 q5 hb;subst hb;have hgl:gr.toNat<gs.length:=by omega
 have kg:=hg _ (mem_getD d0G hgl);have e3:=getD_map gpv gs d0G hgl;have q6:=(q5 (tm1 b 0) (by simp)).2.2.1
 rw[imgQ]at r2;simp only[List.headD_cons,tm1]at r2 q6;obtain⟨z,hz⟩: ∃z,z=gs.getD gr.toNat d0G:=⟨_,rfl⟩;rw[←hz]at q6 kg e3 r2;clear hz q3 q5;obtain⟨m,o⟩:=z;simp only at q6 kg r2;obtain⟨vb,gb⟩:=(gHas_iff kg.1).1 q6;have hiw:0<w.length:=by rw[hwl];exact hpos
 have kw:=hw _ (mem_getD d0I hiw);have e4:=getD_map ipv w d0I hiw;obtain⟨y,hy⟩: ∃y,y=w.getD 0 d0I:=⟨_,rfl⟩;rw[←hy]at kw r2 e4;clear hy;obtain⟨n,a⟩:=y;have hm:=rIMul1_ok kw;simp only[izok,Bool.and_eq_true,Bool.not_eq_true']at kw r2;have xe:=rProd1_ok kg.2.1 kg.2.2 kg.1 gb kw.1 kw.2;rw[N_of vb]at xe;have xe:EvP Tryz.prog 285 [G m o, .sl [.s b], .sl [.agg [.b n, .s a]]] (.tup [.s (L.getD 0 []),E 0]):=by rw[r2];exact xe
 clear r2 kw gb vb kg q6;simp only[gpv]at e3;simp only[ipv]at e4;simp only[Eqn.pv,tm1,List.map_cons,List.map_nil,Trm.pv]at e1;have p1:True=True:=rfl;have p2:=p1;repeat' first|simp only[go_sem,seval,l1,l3,l5,e1,e3,e4,p1,p2]|refine sB ?_|(first|apply pX|apply bX)<;>intro hc|refine⟨oD,?_⟩|exact oD|fail
 refine loop_unroll' ?_;repeat' first|simp only[go_sem,seval,l1,l3,l5,e1,e3,e4,List.getD_cons_zero,viewN,p1,p2]|refine cP hm ?_|refine sB ?_|(first|apply pX|apply bX)<;>intro hc|refine⟨oD,?_⟩|exact oD|fail
 refine loop_unroll' ?_;repeat' first|simp only[go_sem,seval,l1,l3,l5,e1,e3,e4,viewN,p1,p2]|refine cV xe ?_|refine sB ?_|(first|apply pX|apply bX)<;>intro hc|refine⟨oD,?_⟩|exact oD|fail
 have hM:RowOK PV.s 1:=RowOK.s;refine loop_run (α:=Nat) (fun j=>es.length-(j+1)) (fun j=>⟨[(1, .v (.sl (w.map ipv))),(2, .p 1000 0 0),(6, .rs 1089 j 0 (j+1) 1),(7,E' (j+1))],[(1000,⟨0,[.v (.sl (gs.map gpv)), .v (.sl (vs.map vpv)), .v (.sl (es.map Eqn.pv))],false,none⟩),(1089,⟨j,rowF PV.s (L.take (j+1)),true,some 22⟩)],1094⟩) (fun j=>j+1≤es.length) 0 (fun _=>Nat.le_of_ble_eq_true rfl) hpos ?_ ?_
 ·rw[Nat.zero_add,r1,List.take_zero,show rowF PV.s ([]:List Bytes)=[]from rfl]
  exact lE
 ·clear e1 e3 e4 q1 q2 q4 xe hm r1 p1 p2;intro i hi R hR;have hj1:(L.take (i+1)).length=i+1:=by rw[List.length_take];omega
  have p1:=rowF_len hM (L.take (i+1));have p2:=rowF_take hM (L.take (i+1));rw[hj1,Nat.mul_one]at p1 p2
  by_cases hlt:i+1<es.length
  ·have hgo:=hR (i+1) (by omega) (by omega)
   clear hR;have e1:=getD_map Eqn.pv es d0Q hlt;obtain⟨q1,q2,q3,q4,q5⟩:=hq _ (mem_getD d0Q hlt);obtain⟨b,hb⟩:=ho (i+1) hlt;have r1:=rowS_get (l:=L) (i:=(i+1)) (by rw[hL];exact hlt)
   have r2:=hI (i+1) hlt;obtain⟨x,hx⟩: ∃x,x=es.getD (i+1) d0Q:=⟨_,rfl⟩;rw[←hx]at e1 q1 q2 q3 q4 q5 hb r2;clear hx;obtain⟨gr,tg,ts⟩:=x;simp only at q1 q2 q3 q4 q5 hb;subst hb;have hgl:gr.toNat<gs.length:=by omega
   have kg:=hg _ (mem_getD d0G hgl);have e3:=getD_map gpv gs d0G hgl;have q6:=(q5 (tm1 b (i+1)) (by simp)).2.2.1
   rw[imgQ]at r2;simp only[List.headD_cons,tm1]at r2 q6;obtain⟨z,hz⟩: ∃z,z=gs.getD gr.toNat d0G:=⟨_,rfl⟩;rw[←hz]at q6 kg e3 r2;clear hz q3 q5;obtain⟨m,o⟩:=z;simp only at q6 kg r2;obtain⟨vb,gb⟩:=(gHas_iff kg.1).1 q6;have hiw:(i+1)<w.length:=by rw[hwl];exact hlt
   have kw:=hw _ (mem_getD d0I hiw);have e4:=getD_map ipv w d0I hiw;obtain⟨y,hy⟩: ∃y,y=w.getD (i+1) d0I:=⟨_,rfl⟩;rw[←hy]at kw r2 e4;clear hy;obtain⟨n,a⟩:=y;have hm:=rIMul1_ok kw;simp only[izok,Bool.and_eq_true,Bool.not_eq_true']at kw r2;have xe:=rProd1_ok kg.2.1 kg.2.2 kg.1 gb kw.1 kw.2;rw[N_of vb]at xe;have xe:EvP Tryz.prog 285 [G m o, .sl [.s b], .sl [.agg [.b n, .s a]]] (.tup [.s (L.getD (i+1) []),E 0]):=by rw[r2];exact xe
   clear r2 kw gb vb kg q6;simp only[gpv]at e3;simp only[ipv]at e4;simp only[Eqn.pv,tm1,List.map_cons,List.map_nil,Trm.pv]at e1;rw[r1]at hgo;repeat' first|simp only[go_sem,seval,l1,l3,l5,e1,e3,e4,p1,p2]|refine sB ?_|(first|apply pX|apply bX)<;>intro hc|refine⟨oD,?_⟩|exact oD|fail
   refine loop_unroll' ?_;repeat' first|simp only[go_sem,seval,l1,l3,l5,e1,e3,e4,List.getD_cons_zero,viewN,p1,p2]|refine cP hm ?_|refine sB ?_|(first|apply pX|apply bX)<;>intro hc|refine⟨oD,?_⟩|exact oD|fail
   refine loop_unroll' ?_;repeat' first|simp only[go_sem,seval,l1,l3,l5,e1,e3,e4,viewN,p1,p2]|refine cV xe ?_|refine sB ?_|(first|apply pX|apply bX)<;>intro hc|refine⟨oD,?_⟩|exact oD|fail
   refine hgo _ ?_
   (refine AS.Le.of (by first|decide|omega) ?_ ?_<;>simp[LeT,LeH,tget,hget,AV.bd,AV.bd.bdL,u8,bd_cellsOf,bcells_bd,icells_bd])
   all_goals (intro c hc;rcases hc with h|h<;>first|exact bd_row h|(subst h;rfl))
  ·obtain hjv:i+1=es.length:=by omega
   rw[hjv]at p1 p2;have hLt:L.take es.length=L:=List.take_of_length_le (by omega)
   rw[hLt]at p1 p2;rw[hjv,hLt];have p3:=rowF_all hM L;have p4:=rowF_chunk hM L;rw[hL]at p4;repeat' first|simp only[go_sem,seval,l3,p1,p2,p3,p4,rowF_mapO]|refine sB ?_|(first|apply pX|apply bX)<;>intro hc|refine⟨oD,?_⟩|exact oD|fail
   all_goals exact congrArg (fun l=>PV.tup [PV.sl l,E 0]) p4
theorem rImages_ok {s:Stm} (hs:StOK s) (h0:s.eqs≠[]) (ho:OneS s) {w:List (Bool×Bytes)} (hw6:w.length<1000000):EvP Tryz.prog 166 [s.pv, .sl (w.map ipv)] (.tup [.sl ((if w.all izok&&decide (w.length=s.vars.length)then imgL s w else[]).map .s),E (if !(w.all izok)then 3 else if w.length≠s.vars.length then 6 else 0)]):=by
 have hr:=rcheck15_ok hs hw6
 by_cases h1:w.all izok=true
 ·by_cases h2:w.length=s.vars.length
  ·have hi:=rimages_ok hs h0 ho h2 (List.all_eq_true.1 h1);simp only[h1,h2,Bool.not_true,Bool.false_eq_true,if_false,ne_eq,not_true_eq_false,decide_true,Bool.and_self,if_true]at hr⊢;generalize imgL s w=L at*;obtain⟨gs,vs,es⟩:=s;simp only[Stm.pv]at hr hi⊢;refine eW Tryz.call166 Tryz.func166 ?_;repeat' first|simp only[go_sem,seval]|refine cP hr ?_|refine cP hi ?_|refine sB ?_|(first|apply pX|apply bX)<;>intro hc|refine⟨oD,?_⟩|exact oD|fail
  ·simp only[h1,h2,Bool.not_true,Bool.false_eq_true,if_false,ne_eq,not_false_eq_true,decide_false,Bool.and_false,if_true,List.map_nil]at hr⊢;obtain⟨gs,vs,es⟩:=s;simp only[Stm.pv]at hr⊢;refine eW Tryz.call166 Tryz.func166 ?_;repeat' first|simp only[go_sem,seval]|refine cP hr ?_|refine sB ?_|(first|apply pX|apply bX)<;>intro hc|refine⟨oD,?_⟩|exact oD|fail
 ·have h1:w.all izok=false:=Bool.eq_false_iff.2 h1;simp only[h1,Bool.not_false,if_true,Bool.false_and,Bool.false_eq_true,if_false,List.map_nil]at hr⊢;obtain⟨gs,vs,es⟩:=s;simp only[Stm.pv]at hr⊢;refine eW Tryz.call166 Tryz.func166 ?_;repeat' first|simp only[go_sem,seval]|refine cP hr ?_|refine sB ?_|(first|apply pX|apply bX)<;>intro hc|refine⟨oD,?_⟩|exact oD|fail
end Go.Proofs.YtmledjfbgjnknaaGreatDoor
