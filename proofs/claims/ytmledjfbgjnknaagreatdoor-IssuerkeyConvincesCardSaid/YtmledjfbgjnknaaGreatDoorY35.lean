/-
  Part of the proof, part Y35. Own work.
-/
import Derived.Test.YtmledjfbgjnknaaGreatDoorY34
set_option linter.all false
namespace Go.Proofs.YtmledjfbgjnknaaGreatDoor
open Go Go.Dom Go.Num
set_option maxRecDepth 100000
set_option maxHeartbeats 16000000
theorem sBounds_ok {c sl:Bytes} (hr:RuOK c sl) {s:Stm} (hs:StOK s) (h0:s.vars≠[]):EvP Tryz.prog 106 [.agg [.s c, .s sl],s.pv] (.tup [.sl (s.vars.map fun b=>N (limM c sl b)), .sl (s.vars.map fun b=>N (limR c sl b)),E 0]):=by
 have hb:=sbounds_ok hr hs h0;have nv:=hs.nv;obtain⟨gs,vs,es⟩:=s;simp only at hb h0 nv;clear hs;have l2:(vs.map (limP c sl)).length=vs.length:=List.length_map ..;have hpos:0<vs.length:=List.length_pos_iff.2 h0;have hM:RowOK (fun b=>N (limM c sl b)) 1:=⟨fun _=>rfl,fun _ y hy=>by cases List.mem_singleton.1 hy;rfl,fun _ _=>rfl,fun h=>absurd rfl h⟩
 have hR0:RowOK (fun b=>N (limR c sl b)) 1:=⟨fun _=>rfl,fun _ y hy=>by cases List.mem_singleton.1 hy;rfl,fun _ _=>rfl,fun h=>absurd rfl h⟩
 have row1: ∀{i:Nat},i<vs.length→rowF (fun b=>N (limM c sl b)) (vs.take (i+1))=rowF (fun b=>N (limM c sl b)) (vs.take i)++[.v (N (limM c sl (vs.getD i [])))]:=fun h=>by
  rw[take_succ_getD [] h,rowF_snoc];rfl
 have row2: ∀{i:Nat},i<vs.length→rowF (fun b=>N (limR c sl b)) (vs.take (i+1))=rowF (fun b=>N (limR c sl b)) (vs.take i)++[.v (N (limR c sl (vs.getD i [])))]:=fun h=>by
  rw[take_succ_getD [] h,rowF_snoc];rfl
 unfold Stm.pv at*;simp only at*;refine eW Tryz.call106 Tryz.func106 ?_;repeat' first|simp only[go_sem,seval,l2]|refine cP hb ?_|refine sB ?_|(first|apply pX|apply bX)<;>intro hc|refine⟨oD,?_⟩|exact oD|fail
 refine loop_unroll' ?_;have e1:=getD_map (limP c sl) vs [] hpos;have r1:=row1 hpos;have r2:=row2 hpos;have rn1:rowF (fun b=>N (limM c sl b)) []=[]:=rfl
 have rn2:rowF (fun b=>N (limR c sl b)) []=[]:=rfl
 simp only[limP]at e1;repeat' first|simp only[go_sem,seval,l2,e1]|refine sB ?_|(first|apply pX|apply bX)<;>intro hc|refine⟨oD,?_⟩|exact oD|fail
 refine loop_run (α:=Nat) (fun j=>vs.length-(j+1)) (fun j=>⟨[(9, .rs 1029 j 0 (j+1) 1),(10, .rs 1034 j 0 (j+1) 1),(22, .v (.sl (vs.map (limP c sl)))),(23,E' vs.length),(24,E' (j+1))],[(1029,⟨j,rowF (fun b=>N (limM c sl b)) (vs.take (j+1)),true,some 22⟩),(1034,⟨j,rowF (fun b=>N (limR c sl b)) (vs.take (j+1)),true,some 22⟩)],1039⟩) (fun j=>j+1≤vs.length) 0 (fun _=>Nat.le_of_ble_eq_true rfl) hpos ?_ ?_
 ·rw[Nat.zero_add,r1,r2,List.take_zero,rn1,rn2];exact lE
 ·intro j hj R hR;have hj1:(vs.take (j+1)).length=j+1:=by rw[List.length_take];omega
  have q1:=rowF_len hM (vs.take (j+1));have q2:=rowF_take hM (vs.take (j+1));have q5:=rowF_len hR0 (vs.take (j+1));have q6:=rowF_take hR0 (vs.take (j+1));rw[hj1,Nat.mul_one]at q1 q2 q5 q6;have hw1: ∀ _:True,((j:Int)+1)=((j+1:Nat):Int):=fun _=>by omega
  by_cases hlt:j+1<vs.length
  ·have e1:=getD_map (limP c sl) vs [] hlt;have r1:=row1 hlt;have r2:=row2 hlt;simp only[limP]at e1;have hgo:=hR (j+1) (by omega) (by omega)
   rw[r1,r2]at hgo;clear hR;repeat' first|simp only[go_sem,seval,l2,e1,q1,q2,q5,q6]|refine sB ?_|(first|apply pX|apply bX)<;>intro hc|refine⟨oD,?_⟩|exact oD|fail
   refine hgo _ ?_
   (refine AS.Le.of (by first|decide|omega) ?_ ?_<;>simp[LeT,LeH,tget,hget,AV.bd,AV.bd.bdL,u8,bd_cellsOf,bcells_bd,icells_bd])
   all_goals (refine⟨?_,?_⟩<;>(intro c hc;rcases hc with h|h<;>first|exact bd_row h|(subst h;rfl)))
  ·obtain hjv:j+1=vs.length:=by omega
   rw[hjv,List.take_length]at q1 q2 q5 q6;rw[hjv,List.take_length];have q3:=rowF_all hM vs;have q4:chunk 1 vs.length (List.flatMap (fun x=>[PV.s (bts (limM c sl x))]) vs)=vs.map fun b=>N (limM c sl b):=rowF_chunk hM vs
   have q7:=rowF_all hR0 vs;have q8:chunk 1 vs.length (List.flatMap (fun x=>[PV.s (bts (limR c sl x))]) vs)=vs.map fun b=>N (limR c sl b):=rowF_chunk hR0 vs
   repeat' first|simp only[go_sem,seval,l2,q1,q2,q3,q4,q5,q6,q7,q8,rowF_mapO]|refine sB ?_|(first|apply pX|apply bX)<;>intro hc|refine⟨oD,?_⟩|exact oD|fail
   all_goals skip
theorem sints1_ok (x:Bool×Bytes):EvP Tryz.prog 391 [ipv x] (.b (!izok x)):=by
 obtain⟨n,a⟩:=x;have hv:=iValid_ok n a;have e:izok (n,a)=(validN a&& !(n&&a==[])):=rfl;rw[e];generalize (validN a&& !(n&&a==[]))=b at*;simp only[ipv];refine eW Tryz.call391 Tryz.func391 ?_;repeat' first|simp only[go_sem,seval]|refine cP hv ?_|refine sB ?_|(first|apply pX|apply bX)<;>intro hc|refine⟨oD,?_⟩|exact oD|fail
theorem sints_ok (l:List (Bool×Bytes)) (hl:l.length<1000000):EvP Tryz.prog 314 [.sl (l.map ipv)] (.b (l.all izok)):=by
 have h1:=ContainsFuncI_ok l _ _ (by omega) sints1_ok
 have e:(l.all izok)= !(l.any fun x=> !izok x):=by
  induction l with
  |nil=>rfl
  |cons x l ih=>
   have:=ih (by simp at hl;omega)
   rw[List.all_cons,List.any_cons,this]
   ·cases izok x<;>simp
   ·exact ContainsFuncI_ok l _ _ (by simp at hl;omega) sints1_ok
 rw[e];generalize (l.any fun x=> !izok x)=b at*
 refine eW Tryz.call314 Tryz.func314 ?_;repeat' first|simp only[go_sem,seval]|refine cP h1 ?_|refine sB ?_|(first|apply pX|apply bX)<;>intro hc|refine⟨oD,?_⟩|exact oD|fail
theorem sadmits_ok {b:Bytes} (hb:b≠[]) {n:Bool} {a:Bytes} (va:validN a=true) {L:Nat} (hL:L<LIM):EvP Tryz.prog 315 [vpv b,N L, .agg [.b n, .s a]] (.b (decide (num a<L))):=by
 have hbb:(b==([]:Bytes))=false:=by simpa using hb
 have hc:=cmpNN (num_of va) hL;rw[N_of va]at hc;have hd: ∀ _:True,decide (cmpN (num a) L<0)=decide (num a<L):=fun _=>by rw[Bool.eq_iff_iff];simp only[decide_eq_true_eq];exact cmpN_lt
 generalize cmpN (num a) L=cm at*;unfold vpv;refine eW Tryz.call315 Tryz.func315 ?_;repeat' first|simp only[go_sem,seval,hbb,hd trivial]|refine cP hc ?_|refine sB ?_|(first|apply pX|apply bX)<;>intro hc|refine⟨oD,?_⟩|exact oD|fail
 all_goals simp_all
noncomputable def msgT (M:Nat) (l:List (Bool×Bytes)) (x:Nat) (t:Trm):Nat:=
 x*powZ M (powZ M (num t.base) t.neg (num t.abs)) (l.getD t.var.toNat d0I).1 (num (l.getD t.var.toNat d0I).2)%M
noncomputable def msgQ (gs:List (Bytes×Bytes)) (c:Bytes) (l:List (Bool×Bytes)) (q:Eqn):Nat:=
 q.terms.foldl (msgT (num (gs.getD q.grp.toNat d0G).1) l) (powZ (num (gs.getD q.grp.toNat d0G).1) (num q.tgt) (!(c==[])) (num c))
theorem NegFrom_ok {c:Bytes} (vc:validN c=true):EvP Tryz.prog 392 [.agg [.b false, .s c]] (.agg [.b (!(c==[])), .s c]):=by
 have hv:=iValid_ok false c;rw[vc]at hv;have hm:=made_ok true c;rw[Bool.true_and]at hm;refine eW Tryz.call392 Tryz.func392 ?_;repeat' first|simp only[go_sem,seval]|refine cP hv ?_|refine cP hm ?_|refine sB ?_|(first|apply pX|apply bX)<;>intro hc|refine⟨oD,?_⟩|exact oD|fail
theorem smessages_ok {s:Stm} (hs:StOK s) (h0:s.eqs≠[]) {c:Bytes} (vc:validN c=true) {l:List (Bool×Bytes)} (hlen:l.length=s.vars.length) (hl: ∀x∈l,izok x=true):EvP Tryz.prog 316 [s.pv, .s c, .sl (l.map ipv)] (.sl (s.eqs.map fun q=>N (msgQ s.groups c l q))):=by
 obtain⟨gs,vs,es⟩:=s;obtain⟨hg,hv,hq,ng,nv,ne⟩:=hs;simp only at hg hv hq ng nv ne h0 hlen;have hpos:0<es.length:=List.length_pos_iff.2 h0;have l1:(gs.map gpv).length=gs.length:=List.length_map ..;have l3:(es.map Eqn.pv).length=es.length:=List.length_map ..;have l5:(l.map ipv).length=l.length:=List.length_map ..;have fr:=From_ok vc;have ng':=NegFrom_ok vc;have hM:RowOK (fun q=>N (msgQ gs c l q)) 1:=⟨fun _=>rfl,fun _ y hy=>by cases List.mem_singleton.1 hy;rfl,fun _ _=>rfl,fun h=>absurd rfl h⟩
 have row1: ∀{i:Nat},i<es.length→rowF (fun q=>N (msgQ gs c l q)) (es.take (i+1))=rowF (fun q=>N (msgQ gs c l q)) (es.take i)++[.v (N (msgQ gs c l (es.getD i d0Q)))]:=fun h=>by
  rw[take_succ_getD d0Q h,rowF_snoc];rfl
 have rn1:rowF (fun q=>N (msgQ gs c l q)) []=[]:=rfl
 unfold Stm.pv;simp only;refine eW Tryz.call316 Tryz.func316 ?_;repeat' first|simp only[go_sem,seval,l3]|refine sB ?_|(first|apply pX|apply bX)<;>intro hc|refine⟨oD,?_⟩|exact oD|fail
 refine loop_unroll' ?_;have e1:=getD_map Eqn.pv es d0Q hpos;obtain⟨q1,q2,q3,q4,q5⟩:=hq _ (mem_getD d0Q hpos);have r1:=row1 hpos;obtain⟨x,hx⟩: ∃x,x=es.getD 0 d0Q:=⟨_,rfl⟩;rw[←hx]at e1 q1 q2 q3 q4 q5 r1;clear hx;obtain⟨gr,tg,ts⟩:=x;simp only at q1 q2 q3 q4 q5;have hgl:gr.toNat<gs.length:=by omega
 have kg:=hg _ (mem_getD d0G hgl);have e3:=getD_map gpv gs d0G hgl;have hmQ:msgQ gs c l ⟨gr,tg,ts⟩=ts.foldl (msgT (num (gs.getD gr.toNat d0G).1) l) (powZ (num (gs.getD gr.toNat d0G).1) (num tg) (!(c==[])) (num c)):=rfl;obtain⟨z,hz⟩: ∃z,z=gs.getD gr.toNat d0G:=⟨_,rfl⟩;rw[←hz]at q3 q5 kg e3 hmQ;clear hz;obtain⟨m,o⟩:=z;simp only at q3 q5 kg hmQ;obtain⟨vt,gt⟩:=(gHas_iff kg.1).1 q3;have m1:=(gE_m kg.1).2.2.1;have hzc:(!(c==[])&&c==[])=false:=by cases(c==([]:Bytes))<;>rfl
 have xe:=gExp_ok kg.2.1 kg.2.2 kg.1 gt vc hzc;rw[N_of vt]at xe;have gx0:=gt.powZ m1 (!(c==[])) (num c);obtain⟨x0,hx0⟩: ∃x0,x0=powZ (num m) (num tg) (!(c==[])) (num c):=⟨_,rfl⟩;rw[←hx0]at xe gx0 hmQ;rw[hmQ]at r1;clear hx0 hmQ gt vt;have l4:(ts.map Trm.pv).length=ts.length:=List.length_map ..;simp only[gpv]at e3;simp only[Eqn.pv]at e1;repeat' first|simp only[go_sem,seval,l1,l3,e1,e3,l4]|refine cP fr ?_|refine cP ng' ?_|refine cP xe ?_|refine sB ?_|(first|apply pX|apply bX)<;>intro hc|refine⟨oD,?_⟩|exact oD|fail
 refine loop_run (α:=Nat×Nat) (fun s=>ts.length-s.1) (fun s=>⟨[(1, .v (.s c)),(2, .v (.sl (l.map ipv))),(3, .p 1000 0 0),(7, .sn),(18, .v (.sl (es.map Eqn.pv))),(19,E' es.length),(20,E' 0),(10, .p 1018 0 0),(11, .v (N s.2)),(41, .v (.sl (ts.map Trm.pv))),(42,E' ts.length),(43,E' s.1)],[(1000,⟨0,[.v (.sl (gs.map gpv)), .v (.sl (vs.map vpv)), .v (.sl (es.map Eqn.pv))],false,none⟩),(1018,⟨0,[.v (.s m), .v (.s o)],false,some 26⟩)],1036⟩) (fun s=>s.1≤ts.length∧GP m o s.2∧(ts.drop s.1).foldl (msgT (num m) l) s.2=ts.foldl (msgT (num m) l) x0) (0,x0) (fun _=>Nat.le_of_ble_eq_true rfl) ⟨Nat.zero_le _,gx0,rfl⟩ ?_ ?_
 ·(refine AS.Le.of (by first|decide|omega) ?_ ?_<;>simp[LeT,LeH,tget,hget,AV.bd,AV.bd.bdL,u8,bd_cellsOf,bcells_bd,icells_bd])
  skip
 ·rintro⟨j,x⟩ ⟨hj,gx,hf⟩ R' hR';simp only at hj gx hf
  by_cases hjt:j<ts.length
  ·have e2:=getD_map Trm.pv ts d0T hjt;obtain⟨t1,t2,t3,t4⟩:=q5 _ (mem_getD d0T hjt);rw[drop_getD d0T hjt]at hf;obtain⟨y,hy⟩: ∃y,y=ts.getD j d0T:=⟨_,rfl⟩;rw[←hy]at e2 t1 t2 t3 t4 hf;obtain⟨b,v,n,a⟩:=y;simp only at t1 t2 t3 t4;rw[List.foldl_cons]at hf;obtain⟨kb1,kb2⟩:=(gHas_iff kg.1).1 t3;have hvl:v.toNat<l.length:=by omega
   have e4:=getD_map ipv l d0I hvl;have kr:=hl _ (mem_getD d0I hvl);have hmT:msgT (num m) l x ⟨b,v,n,a⟩=x*powZ (num m) (powZ (num m) (num b) n (num a)) (l.getD v.toNat d0I).1 (num (l.getD v.toNat d0I).2)%num m:=rfl;obtain⟨w,hw⟩: ∃w,w=l.getD v.toNat d0I:=⟨_,rfl⟩;rw[←hw]at e4 kr hmT;obtain⟨rn,ra⟩:=w;simp only[izok,Bool.and_eq_true,Bool.not_eq_true']at t4 kr;have m1:=(gE_m kg.1).2.2.1;have x1:=gExp_ok kg.2.1 kg.2.2 kg.1 kb2 t4.1 t4.2;rw[N_of kb1]at x1;have gy:=kb2.powZ m1 n (num a);have x2:=gExp_ok kg.2.1 kg.2.2 kg.1 gy kr.1 kr.2;have gz:=gy.powZ m1 rn (num ra);have x3:=gMul_ok kg.2.1 kg.2.2 kg.1 gx gz;have hgo':=hR' (j+1,msgT (num m) l x ⟨b,v,n,a⟩) ⟨by show j+1≤ _;omega,by rw[hmT];exact gx.mul gz,hf⟩ (by show ts.length-(j+1)<ts.length-j;omega)
   rw[hmT]at hgo';clear hR' hy t3 t4 q5 hf hw kb1 kb2 gx gy gz hmT kr;simp only[Trm.pv]at e2;simp only[ipv]at e4;have hd3: ∀ _:True,v<(l.length:Int):=fun _=>by omega
   generalize powZ (num m) (powZ (num m) (num b) n (num a)) rn (num ra)=z at*;generalize powZ (num m) (num b) n (num a)=y at*;repeat' first|simp only[go_sem,seval,l3,l4,l5,e2,e4]|refine cP x1 ?_|refine cP x2 ?_|refine cP x3 ?_|refine sB ?_|(first|apply pX|apply bX)<;>intro hc|refine⟨oD,?_⟩|exact oD|fail
   refine hgo' _ ?_
   (refine AS.Le.of (by first|decide|omega) ?_ ?_<;>simp[LeT,LeH,tget,hget,AV.bd,AV.bd.bdL,u8,bd_cellsOf,bcells_bd,icells_bd])
   skip
  ·obtain rfl:j=ts.length:=by omega
   rw[List.drop_length]at hf;simp only[List.foldl_nil]at hf;subst hf;repeat' first|simp only[go_sem,seval,l3,l4]|refine sB ?_|(first|apply pX|apply bX)<;>intro hc|refine⟨oD,?_⟩|exact oD|fail
   refine loop_run (α:=Nat) (fun j=>es.length-(j+1)) (fun j=>⟨[(1, .v (.s c)),(2, .v (.sl (l.map ipv))),(3, .p 1000 0 0),(7, .rs 1040 j 0 (j+1) 1),(18, .v (.sl (es.map Eqn.pv))),(19,E' es.length),(20,E' (j+1))],[(1000,⟨0,[.v (.sl (gs.map gpv)), .v (.sl (vs.map vpv)), .v (.sl (es.map Eqn.pv))],false,none⟩),(1040,⟨j,rowF (fun q=>N (msgQ gs c l q)) (es.take (j+1)),true,some 22⟩)],1044⟩) (fun j=>j+1≤es.length) 0 (fun _=>Nat.le_of_ble_eq_true rfl) hpos ?_ ?_
   ·rw[Nat.zero_add,r1,List.take_zero,rn1];exact lE
   ·clear e1 e3 q1 q2 q3 q4 q5 kg gx0 xe r1 l4;intro i hi R hR;have hj1:(es.take (i+1)).length=i+1:=by rw[List.length_take];omega
    have p1:=rowF_len hM (es.take (i+1));have p2:=rowF_take hM (es.take (i+1));rw[hj1,Nat.mul_one]at p1 p2;have hw1: ∀ _:True,((i:Int)+1)=((i+1:Nat):Int):=fun _=>by omega
    by_cases hlt:i+1<es.length
    ·have hgo:=hR (i+1) (by omega) (by omega)
     clear hR;have e1:=getD_map Eqn.pv es d0Q hlt;obtain⟨q1,q2,q3,q4,q5⟩:=hq _ (mem_getD d0Q hlt);have r1:=row1 hlt;obtain⟨x,hx⟩: ∃x,x=es.getD (i+1) d0Q:=⟨_,rfl⟩;rw[←hx]at e1 q1 q2 q3 q4 q5 r1;clear hx;obtain⟨gr,tg,ts⟩:=x;simp only at q1 q2 q3 q4 q5;have hgl:gr.toNat<gs.length:=by omega
     have kg:=hg _ (mem_getD d0G hgl);have e3:=getD_map gpv gs d0G hgl;have hmQ:msgQ gs c l ⟨gr,tg,ts⟩=ts.foldl (msgT (num (gs.getD gr.toNat d0G).1) l) (powZ (num (gs.getD gr.toNat d0G).1) (num tg) (!(c==[])) (num c)):=rfl;obtain⟨z,hz⟩: ∃z,z=gs.getD gr.toNat d0G:=⟨_,rfl⟩;rw[←hz]at q3 q5 kg e3 hmQ;clear hz;obtain⟨m,o⟩:=z;simp only at q3 q5 kg hmQ;obtain⟨vt,gt⟩:=(gHas_iff kg.1).1 q3;have m1:=(gE_m kg.1).2.2.1;have hzc:(!(c==[])&&c==[])=false:=by cases(c==([]:Bytes))<;>rfl
     have xe:=gExp_ok kg.2.1 kg.2.2 kg.1 gt vc hzc;rw[N_of vt]at xe;have gx0:=gt.powZ m1 (!(c==[])) (num c);obtain⟨x0,hx0⟩: ∃x0,x0=powZ (num m) (num tg) (!(c==[])) (num c):=⟨_,rfl⟩;rw[←hx0]at xe gx0 hmQ;rw[hmQ]at r1;clear hx0 hmQ gt vt;have l4:(ts.map Trm.pv).length=ts.length:=List.length_map ..;simp only[gpv]at e3;simp only[Eqn.pv]at e1;rw[r1]at hgo;repeat' first|simp only[go_sem,seval,l1,l3,e1,e3,l4]|refine cP fr ?_|refine cP ng' ?_|refine cP xe ?_|refine sB ?_|(first|apply pX|apply bX)<;>intro hc|refine⟨oD,?_⟩|exact oD|fail
     refine loop_run (α:=Nat×Nat) (fun s=>ts.length-s.1) (fun s=>⟨[(1, .v (.s c)),(2, .v (.sl (l.map ipv))),(3, .p 1000 0 0),(7, .rs 1040 i 0 (i+1) 1),(18, .v (.sl (es.map Eqn.pv))),(19,E' es.length),(20,E' (i+1)),(10, .p 1055 0 0),(11, .v (N s.2)),(41, .v (.sl (ts.map Trm.pv))),(42,E' ts.length),(43,E' s.1)],[(1000,⟨0,[.v (.sl (gs.map gpv)), .v (.sl (vs.map vpv)), .v (.sl (es.map Eqn.pv))],false,none⟩),(1055,⟨0,[.v (.s m), .v (.s o)],false,some 26⟩),(1040,⟨i,rowF (fun q=>N (msgQ gs c l q)) (es.take (i+1)),true,some 22⟩)],1073⟩) (fun s=>s.1≤ts.length∧GP m o s.2∧(ts.drop s.1).foldl (msgT (num m) l) s.2=ts.foldl (msgT (num m) l) x0) (0,x0) (fun _=>Nat.le_of_ble_eq_true rfl) ⟨Nat.zero_le _,gx0,rfl⟩ ?_ ?_
     ·(refine AS.Le.of (by first|decide|omega) ?_ ?_<;>simp[LeT,LeH,tget,hget,AV.bd,AV.bd.bdL,u8,bd_cellsOf,bcells_bd,icells_bd])
      all_goals (intro c hc;exact bd_row hc)
     ·rintro⟨j,x⟩ ⟨hj,gx,hf⟩ R' hR';simp only at hj gx hf
      by_cases hjt:j<ts.length
      ·have e2:=getD_map Trm.pv ts d0T hjt;obtain⟨t1,t2,t3,t4⟩:=q5 _ (mem_getD d0T hjt);rw[drop_getD d0T hjt]at hf;obtain⟨y,hy⟩: ∃y,y=ts.getD j d0T:=⟨_,rfl⟩;rw[←hy]at e2 t1 t2 t3 t4 hf;obtain⟨b,v,n,a⟩:=y;simp only at t1 t2 t3 t4;rw[List.foldl_cons]at hf;obtain⟨kb1,kb2⟩:=(gHas_iff kg.1).1 t3;have hvl:v.toNat<l.length:=by omega
       have e4:=getD_map ipv l d0I hvl;have kr:=hl _ (mem_getD d0I hvl);have hmT:msgT (num m) l x ⟨b,v,n,a⟩=x*powZ (num m) (powZ (num m) (num b) n (num a)) (l.getD v.toNat d0I).1 (num (l.getD v.toNat d0I).2)%num m:=rfl;obtain⟨w,hw⟩: ∃w,w=l.getD v.toNat d0I:=⟨_,rfl⟩;rw[←hw]at e4 kr hmT;obtain⟨rn,ra⟩:=w;simp only[izok,Bool.and_eq_true,Bool.not_eq_true']at t4 kr;have m1:=(gE_m kg.1).2.2.1;have x1:=gExp_ok kg.2.1 kg.2.2 kg.1 kb2 t4.1 t4.2;rw[N_of kb1]at x1;have gy:=kb2.powZ m1 n (num a);have x2:=gExp_ok kg.2.1 kg.2.2 kg.1 gy kr.1 kr.2;have gz:=gy.powZ m1 rn (num ra);have x3:=gMul_ok kg.2.1 kg.2.2 kg.1 gx gz;have hgo':=hR' (j+1,msgT (num m) l x ⟨b,v,n,a⟩) ⟨by show j+1≤ _;omega,by rw[hmT];exact gx.mul gz,hf⟩ (by show ts.length-(j+1)<ts.length-j;omega)
       rw[hmT]at hgo';clear hR' hy t3 t4 q5 hf hw kb1 kb2 gx gy gz hmT kr;simp only[Trm.pv]at e2;simp only[ipv]at e4;have hd3: ∀ _:True,v<(l.length:Int):=fun _=>by omega
       generalize powZ (num m) (powZ (num m) (num b) n (num a)) rn (num ra)=z at*;generalize powZ (num m) (num b) n (num a)=y at*;repeat' first|simp only[go_sem,seval,l3,l4,l5,e2,e4]|refine cP x1 ?_|refine cP x2 ?_|refine cP x3 ?_|refine sB ?_|(first|apply pX|apply bX)<;>intro hc|refine⟨oD,?_⟩|exact oD|fail
       refine hgo' _ ?_
       (refine AS.Le.of (by first|decide|omega) ?_ ?_<;>simp[LeT,LeH,tget,hget,AV.bd,AV.bd.bdL,u8,bd_cellsOf,bcells_bd,icells_bd])
       all_goals (intro c hc;exact bd_row hc)
      ·obtain rfl:j=ts.length:=by omega
       rw[List.drop_length]at hf;simp only[List.foldl_nil]at hf;subst hf;repeat' first|simp only[go_sem,seval,l3,l4,p1,p2]|refine sB ?_|(first|apply pX|apply bX)<;>intro hc|refine⟨oD,?_⟩|exact oD|fail
       refine hgo _ ?_
       (refine AS.Le.of (by first|decide|omega) ?_ ?_<;>simp[LeT,LeH,tget,hget,AV.bd,AV.bd.bdL,u8,bd_cellsOf,bcells_bd,icells_bd])
       all_goals (intro c hc;rcases hc with h|h<;>first|exact bd_row h|(subst h;rfl))
    ·obtain hjv:i+1=es.length:=by omega
     rw[hjv,List.take_length]at p1 p2;rw[hjv,List.take_length];have p3:=rowF_all hM es;have p4:chunk 1 es.length (List.flatMap (fun x=>[PV.s (bts (msgQ gs c l x))]) es)=es.map fun q=>N (msgQ gs c l q):=rowF_chunk hM es
     repeat' first|simp only[go_sem,seval,l3,p1,p2,p3,p4,rowF_mapO]|refine sB ?_|(first|apply pX|apply bX)<;>intro hc|refine⟨oD,?_⟩|exact oD|fail
end Go.Proofs.YtmledjfbgjnknaaGreatDoor
namespace Go.Proofs.YtmledjfbgjnknaaGreatDoor
open Go Go.Dom
set_option maxRecDepth 100000
set_option maxHeartbeats 16000000
theorem iMul1_ok {n:Bool} {a:Bytes} (h:izok (n,a)=true):EvP Tryz.prog 251 [.agg [.b false, .s [1]], .agg [.b n, .s a]] (.tup [.agg [.b n, .s a],E 0]):=by
 simp only[izok,Bool.and_eq_true,Bool.not_eq_true']at h;obtain⟨va,hz⟩:=h;have v1:EvP Tryz.prog 109 [.agg [.b false, .s [1]]] (.b true):=iValid_ok false [1];have v2:=iValid_ok n a;rw[va,hz]at v2;have hb:EvP Tryz.prog 359 [.agg [.b false, .s [1]], .agg [.b n, .s a]] (.b true):=by
  refine eW Tryz.call359 Tryz.func359 ?_;repeat' first|simp only[go_sem,seval]|refine cP v1 ?_|refine cP v2 ?_|refine sB ?_|(first|apply pX|apply bX)<;>intro hc|refine⟨oD,?_⟩|exact oD|fail
 have hm:=Mul_ok [1] a;have e1:mulB [1] a=(a,0):=by
  have hl:num [1]=1:=rfl;have hlt:=num_lt a;have hla:=len_of va;unfold mulB;rw[va,hl,Nat.one_mul,if_pos (by decide),if_pos (show num a<LIM from Nat.lt_of_lt_of_le hlt (Nat.pow_le_pow_right (by decide) hla)),bts_of va]
 rw[e1]at hm;have hk:=made_ok n a;have e2:(n&& !(a==[]))=n:=by
  cases n
  ·rfl
  ·simp at hz⊢;exact hz
 rw[e2]at hk;have e3:(!(false==n))=n:=by cases n<;>rfl
 refine eW Tryz.call251 Tryz.func251 ?_;repeat' first|simp only[go_sem,seval,e3]|refine cP hb ?_|refine cP hm ?_|refine cP hk ?_|refine sB ?_|(first|apply pX|apply bX)<;>intro hc|refine⟨oD,?_⟩|exact oD|fail
def tm1 (b:Bytes) (i:Nat):Trm:=⟨b,i,false,[1]⟩
theorem collect_ok (n nm:Nat) (g:Int) (t b:Bytes) {i:Nat} {w:List (Bool×Bytes)} (hi:i<w.length) (hw:izok (w.getD i d0I)=true):EvA Tryz.prog 346 nm [(n,⟨0,[.v (.sl (w.map ipv))],false,none⟩)] [.v (Eqn.pv ⟨g,t,[tm1 b i]⟩), .p n 0 0] (.tup [.v (.sl [.s b]), .v (.sl [ipv (w.getD i d0I)]), .v (E 0)]) []:=by
 have l1:(w.map ipv).length=w.length:=List.length_map ..;have e1:=getD_map ipv w d0I hi;obtain⟨x,hx⟩: ∃x,x=w.getD i d0I:=⟨_,rfl⟩;rw[←hx]at e1 hw⊢;clear hx;obtain⟨ng,a⟩:=x;have hm:=iMul1_ok hw;simp only[Eqn.pv,tm1,List.map_cons,List.map_nil,Trm.pv,ipv]at e1 hm⊢;refine EvA.w mixed Tryz.call346 Tryz.func346 rfl (tyC.1 _ _ _ (by cbv)) (tyC.2 _ _ (by cbv)) (obs:=[⟨0,[.v (.sl (w.map ipv))],false,none⟩]) (args:=[.v (.agg [.i .i64 g, .s t, .sl [.agg [.s b, .i .i64 i, .b false, .s [1]]]]), .p 0 0 0]) (fs:=[none]) (j:=none) (nw:=none) (v:= .tup [.v (.sl [.s b]), .v (.sl [.agg [.b ng, .s a]]), .v (E 0)]) (ns:=[n]) (obsA:=[⟨0,[.v (.sl (w.map ipv))],false,none⟩]) rfl ?_ (by simp) (by simp) rfl (by simp[mapO,AObj.ren,AV.ren,AV.ren.renL]) (by simp[mapO,AV.ren,ixOf]) (by simp[AV.ren,AV.ren.renL]) (by simp[upsOf,outs,AObj.ren,AV.ren,AV.ren.renL])
 simp only[go_sem,seval];repeat' first|simp only[go_sem,seval,true_or,or_true,false_or,or_false,Option.some.injEq,RetA,resLA,outV,outC,outO,viewC,hfV,foV,finH,finN,mkResA,mapO_outC_bcells,AV.ren,AV.ren.renL,renL_bcells,l1,e1,List.getD_cons_zero]|refine cP hm ?_|(refine loop_unroll' ?_)|refine sB ?_|(first|apply pX|apply bX)<;>intro hc|refine⟨oD,?_⟩|exact oD|fail
 all_goals first|rfl|trivial|skip
structure OneS (s:Stm):Prop where
 l:s.eqs.length=s.vars.length
 t: ∀i,i<s.eqs.length→ ∃b,(s.eqs.getD i d0Q).terms=[tm1 b i]
noncomputable def imgQ (gs:List (Bytes×Bytes)) (w:List (Bool×Bytes)) (i:Nat) (q:Eqn):Nat:=
 powZ (num (gs.getD q.grp.toNat d0G).1) (num (q.terms.headD d0T).base) (w.getD i d0I).1 (num (w.getD i d0I).2)
noncomputable def imgL (s:Stm) (w:List (Bool×Bytes)):List Bytes:=s.eqs.mapIdx fun i q=>bts (imgQ s.groups w i q)
theorem lready_ok {s:Stm} (hs:StOK s) {w:List (Bool×Bytes)} (hw:w.length<1000000):EvP Tryz.prog 223 [s.pv, .sl (w.map ipv)] (E (if !(w.all izok)then 3 else if w.length≠s.vars.length then 6 else 0)):=by
 have hf:=lform_ok hs;have hc:=lCheck_ok hs;have h1: ∀x:Bool×Bytes,EvP Tryz.prog 344 [ipv x] (.b (!izok x)):=by
  rintro⟨n,a⟩;have hv:=iValid_ok n a;have e:izok (n,a)=(validN a&& !(n&&a==[])):=rfl;rw[e];generalize (validN a&& !(n&&a==[]))=b at*;simp only[ipv];refine eW Tryz.call344 Tryz.func344 ?_;repeat' first|simp only[go_sem,seval]|refine cP hv ?_|refine sB ?_|(first|apply pX|apply bX)<;>intro hc|refine⟨oD,?_⟩|exact oD|fail
 have hcf:=ContainsFuncI_ok w _ _ (by omega) h1
 rw[show(w.any fun x=> !izok x)= !w.all izok from by
  induction w with
  |nil=>rfl
  |cons x l ih=>rw[List.any_cons,List.all_cons,ih (by simp at hw;omega) (ContainsFuncI_ok _ _ _ (by simp at hw;omega) h1)];cases izok x<;>simp]at hcf
 have l1:(w.map ipv).length=w.length:=List.length_map ..;obtain⟨gs,vs,es⟩:=s;have l2:(vs.map vpv).length=vs.length:=List.length_map ..;simp only[Stm.pv]at hf hc⊢;generalize w.all izok=b at*;cases b
 ·refine eW Tryz.call223 Tryz.func223 ?_;repeat' first|simp only[go_sem,seval,l1,l2]|refine cP hf ?_|refine cP hc ?_|refine cP hcf ?_|refine sB ?_|(first|apply pX|apply bX)<;>intro hc|refine⟨oD,?_⟩|exact oD|fail
 ·by_cases hl:w.length=vs.length
  ·refine eW Tryz.call223 Tryz.func223 ?_;repeat' first|simp only[go_sem,seval,l1,l2]|refine cP hf ?_|refine cP hc ?_|refine cP hcf ?_|refine sB ?_|(first|apply pX|apply bX)<;>intro hc|refine⟨oD,?_⟩|exact oD|fail
   all_goals simp[hl]
  ·refine eW Tryz.call223 Tryz.func223 ?_;repeat' first|simp only[go_sem,seval,l1,l2]|refine cP hf ?_|refine cP hc ?_|refine cP hcf ?_|refine sB ?_|(first|apply pX|apply bX)<;>intro hc|refine⟨oD,?_⟩|exact oD|fail
   all_goals simp[hl]
theorem imgQ_at {s:Stm} {w:List (Bool×Bytes)} {i:Nat} (h:i<s.eqs.length):(imgL s w).getD i []=bts (imgQ s.groups w i (s.eqs.getD i d0Q)):=by
 simp[imgL,List.getD_eq_getElem?_getD,h]
theorem imgL_len (s:Stm) (w:List (Bool×Bytes)):(imgL s w).length=s.eqs.length:=by simp[imgL]
theorem rowS_get {l:List Bytes} {i:Nat} (h:i<l.length):rowF PV.s (l.take (i+1))=rowF PV.s (l.take i)++[.v (.s (l.getD i []))]:=by
 rw[take_succ_getD [] h,rowF_snoc];rfl
theorem images_ok {s:Stm} (hs:StOK s) (h0:s.eqs≠[]) (ho:OneS s) {w:List (Bool×Bytes)} (hwl:w.length=s.vars.length) (hw: ∀x∈w,izok x=true):EvP Tryz.prog 225 [s.pv, .sl (w.map ipv)] (.tup [.sl ((imgL s w).map .s),E 0]):=by
 obtain⟨L,hLd⟩: ∃L,L=imgL s w:=⟨_,rfl⟩;have hI:=fun i h=>(show L.getD i []=bts (imgQ s.groups w i (s.eqs.getD i d0Q))from hLd▸imgQ_at h)
 have hL:L.length=s.eqs.length:=by rw[hLd,imgL_len]
 rw[←hLd];clear hLd;obtain⟨hol,ho⟩:=ho;rw[←hol]at hwl;obtain⟨gs,vs,es⟩:=s;obtain⟨hg,hv,hq,ng,nv,ne⟩:=hs;simp only at hg hv hq ng nv ne h0 hwl ho hI hL hol;have hpos:0<es.length:=List.length_pos_iff.2 h0;have l1:(gs.map gpv).length=gs.length:=List.length_map ..;have l3:(es.map Eqn.pv).length=es.length:=List.length_map ..;have l5:(w.map ipv).length=w.length:=List.length_map ..;unfold Stm.pv;simp only;refine eW Tryz.call225 Tryz.func225 ?_;repeat' first|simp only[go_sem,seval,l3]|refine sB ?_|(first|apply pX|apply bX)<;>intro hc|refine⟨oD,?_⟩|exact oD|fail
 refine loop_unroll' ?_;have e1:=getD_map Eqn.pv es d0Q hpos;obtain⟨q1,q2,q3,q4,q5⟩:=hq _ (mem_getD d0Q hpos);obtain⟨b,hb⟩:=ho 0 hpos;have r1:=rowS_get (l:=L) (i:=0) (by rw[hL];exact hpos)
 have r2:=hI 0 hpos;obtain⟨x,hx⟩: ∃x,x=es.getD 0 d0Q:=⟨_,rfl⟩;rw[←hx]at e1 q1 q2 q3 q4 q5 hb r2;clear hx;obtain⟨gr,tg,ts⟩:=x;simp only at q1 q2 q3 q4 q5 hb;subst hb;have hgl:gr.toNat<gs.length:=by omega
 have kg:=hg _ (mem_getD d0G hgl);have e3:=getD_map gpv gs d0G hgl;have q6:=(q5 (tm1 b 0) (by simp)).2.2.1
 rw[imgQ]at r2;simp only[List.headD_cons,tm1]at r2 q6;obtain⟨z,hz⟩: ∃z,z=gs.getD gr.toNat d0G:=⟨_,rfl⟩;rw[←hz]at q6 kg e3 r2;clear hz q3 q5;obtain⟨m,o⟩:=z;simp only at q6 kg r2;obtain⟨vb,gb⟩:=(gHas_iff kg.1).1 q6;have hiw:0<w.length:=by rw[hwl];exact hpos
 have kw:=hw _ (mem_getD d0I hiw);have hcl:=fun nm=>collect_ok 1001 nm gr tg b hiw kw
 obtain⟨y,hy⟩: ∃y,y=w.getD 0 d0I:=⟨_,rfl⟩;rw[←hy]at kw hcl r2;clear hy;obtain⟨n,a⟩:=y;simp only[izok,Bool.and_eq_true,Bool.not_eq_true']at kw r2;have xe:=gProd_ok kg.2.1 kg.2.2 kg.1 gb kw.1 kw.2;rw[N_of vb]at xe;have xe:EvP Tryz.prog 102 [G m o, .sl [.s b], .sl [.agg [.b n, .s a]]] (.tup [.s (L.getD 0 []),E 0]):=by rw[r2];exact xe
 clear r2 kw gb vb kg q6;simp only[gpv]at e3;simp only[Eqn.pv,tm1,List.map_cons,List.map_nil,Trm.pv]at e1 hcl;simp only[ipv]at hcl;repeat' first|simp only[go_sem,seval,l1,l3,e1,e3,Eqn.pv,Trm.pv,viewN]|(refine CR_eff (hcl _) (by simp[hget]) ?_)|refine cP xe ?_|refine sB ?_|(first|apply pX|apply bX)<;>intro hc|refine⟨oD,?_⟩|exact oD|fail
 have hM:RowOK PV.s 1:=RowOK.s;refine loop_run (α:=Nat) (fun j=>es.length-(j+1)) (fun j=>⟨[(2, .p 1000 0 0),(6, .fn (.func 346) [] [.p 1001 0 0]),(7, .rs 1047 j 0 (j+1) 1),(16, .v (.sl (es.map Eqn.pv))),(17,E' es.length),(18,E' (j+1))],[(1000,⟨0,[.v (.sl (gs.map gpv)), .v (.sl (vs.map vpv)), .v (.sl (es.map Eqn.pv))],false,none⟩),(1001,⟨0,[.v (.sl (w.map ipv))],false,none⟩),(1047,⟨j,rowF PV.s (L.take (j+1)),true,some 22⟩)],1051⟩) (fun j=>j+1≤es.length) 0 (fun _=>Nat.le_of_ble_eq_true rfl) hpos ?_ ?_
 ·rw[Nat.zero_add,r1,List.take_zero,show rowF PV.s ([]:List Bytes)=[]from rfl]
  exact lE
 ·clear e1 e3 q1 q2 q4 xe hcl r1;intro i hi R hR;have hj1:(L.take (i+1)).length=i+1:=by rw[List.length_take];omega
  have p1:=rowF_len hM (L.take (i+1));have p2:=rowF_take hM (L.take (i+1));rw[hj1,Nat.mul_one]at p1 p2
  by_cases hlt:i+1<es.length
  ·have hgo:=hR (i+1) (by omega) (by omega)
   clear hR;have e1:=getD_map Eqn.pv es d0Q hlt;obtain⟨q1,q2,q3,q4,q5⟩:=hq _ (mem_getD d0Q hlt);obtain⟨b,hb⟩:=ho (i+1) hlt;have r1:=rowS_get (l:=L) (i:=(i+1)) (by rw[hL];exact hlt)
   have r2:=hI (i+1) hlt;obtain⟨x,hx⟩: ∃x,x=es.getD (i+1) d0Q:=⟨_,rfl⟩;rw[←hx]at e1 q1 q2 q3 q4 q5 hb r2;clear hx;obtain⟨gr,tg,ts⟩:=x;simp only at q1 q2 q3 q4 q5 hb;subst hb;have hgl:gr.toNat<gs.length:=by omega
   have kg:=hg _ (mem_getD d0G hgl);have e3:=getD_map gpv gs d0G hgl;have q6:=(q5 (tm1 b (i+1)) (by simp)).2.2.1
   rw[imgQ]at r2;simp only[List.headD_cons,tm1]at r2 q6;obtain⟨z,hz⟩: ∃z,z=gs.getD gr.toNat d0G:=⟨_,rfl⟩;rw[←hz]at q6 kg e3 r2;clear hz q3 q5;obtain⟨m,o⟩:=z;simp only at q6 kg r2;obtain⟨vb,gb⟩:=(gHas_iff kg.1).1 q6;have hiw:(i+1)<w.length:=by rw[hwl];exact hlt
   have kw:=hw _ (mem_getD d0I hiw);have hcl:=fun nm=>collect_ok 1001 nm gr tg b hiw kw
   obtain⟨y,hy⟩: ∃y,y=w.getD (i+1) d0I:=⟨_,rfl⟩;rw[←hy]at kw hcl r2;clear hy;obtain⟨n,a⟩:=y;simp only[izok,Bool.and_eq_true,Bool.not_eq_true']at kw r2;have xe:=gProd_ok kg.2.1 kg.2.2 kg.1 gb kw.1 kw.2;rw[N_of vb]at xe;have xe:EvP Tryz.prog 102 [G m o, .sl [.s b], .sl [.agg [.b n, .s a]]] (.tup [.s (L.getD (i+1) []),E 0]):=by rw[r2];exact xe
   clear r2 kw gb vb kg q6;simp only[gpv]at e3;simp only[Eqn.pv,tm1,List.map_cons,List.map_nil,Trm.pv]at e1 hcl;simp only[ipv]at hcl;rw[r1]at hgo;repeat' first|simp only[go_sem,seval,l1,l3,e1,e3,Eqn.pv,Trm.pv,viewN,p1,p2]|(refine CR_eff (hcl _) (by simp[hget]) ?_)|refine cP xe ?_|refine sB ?_|(first|apply pX|apply bX)<;>intro hc|refine⟨oD,?_⟩|exact oD|fail
   all_goals skip
   refine hgo _ ?_
   (refine AS.Le.of (by first|decide|omega) ?_ ?_<;>simp[LeT,LeH,tget,hget,AV.bd,AV.bd.bdL,u8,bd_cellsOf,bcells_bd,icells_bd])
   all_goals (intro c hc;rcases hc with h|h<;>first|exact bd_row h|(subst h;rfl))
  ·obtain hjv:i+1=es.length:=by omega
   rw[hjv]at p1 p2;have hLt:L.take es.length=L:=List.take_of_length_le (by omega)
   rw[hLt]at p1 p2;rw[hjv,hLt];have p3:=rowF_all hM L;have p4:=rowF_chunk hM L;rw[hL]at p4;repeat' first|simp only[go_sem,seval,l3,p1,p2,p3,p4,rowF_mapO]|refine sB ?_|(first|apply pX|apply bX)<;>intro hc|refine⟨oD,?_⟩|exact oD|fail
   all_goals exact congrArg (fun l=>PV.tup [PV.sl l,E 0]) p4
theorem Images_ok {s:Stm} (hs:StOK s) (h0:s.eqs≠[]) (ho:OneS s) {w:List (Bool×Bytes)} (hw6:w.length<1000000):EvP Tryz.prog 122 [s.pv, .sl (w.map ipv)] (.tup [.sl ((if w.all izok&&decide (w.length=s.vars.length)then imgL s w else[]).map .s),E (if !(w.all izok)then 3 else if w.length≠s.vars.length then 6 else 0)]):=by
 have hr:=lready_ok hs hw6
 by_cases h1:w.all izok=true
 ·by_cases h2:w.length=s.vars.length
  ·have hi:=images_ok hs h0 ho h2 (List.all_eq_true.1 h1);simp only[h1,h2,Bool.not_true,Bool.false_eq_true,if_false,ne_eq,not_true_eq_false,decide_true,Bool.and_self,if_true]at hr⊢;generalize imgL s w=L at*;obtain⟨gs,vs,es⟩:=s;simp only[Stm.pv]at hr hi⊢;refine eW Tryz.call122 Tryz.func122 ?_;repeat' first|simp only[go_sem,seval]|refine cP hr ?_|refine cP hi ?_|refine sB ?_|(first|apply pX|apply bX)<;>intro hc|refine⟨oD,?_⟩|exact oD|fail
  ·simp only[h1,h2,Bool.not_true,Bool.false_eq_true,if_false,ne_eq,not_false_eq_true,decide_false,Bool.and_false,if_true,List.map_nil]at hr⊢;obtain⟨gs,vs,es⟩:=s;simp only[Stm.pv]at hr⊢;refine eW Tryz.call122 Tryz.func122 ?_;repeat' first|simp only[go_sem,seval]|refine cP hr ?_|refine sB ?_|(first|apply pX|apply bX)<;>intro hc|refine⟨oD,?_⟩|exact oD|fail
 ·have h1:w.all izok=false:=Bool.eq_false_iff.2 h1;simp only[h1,Bool.not_false,if_true,Bool.false_and,Bool.false_eq_true,if_false,List.map_nil]at hr⊢;obtain⟨gs,vs,es⟩:=s;simp only[Stm.pv]at hr⊢;refine eW Tryz.call122 Tryz.func122 ?_;repeat' first|simp only[go_sem,seval]|refine cP hr ?_|refine sB ?_|(first|apply pX|apply bX)<;>intro hc|refine⟨oD,?_⟩|exact oD|fail
end Go.Proofs.YtmledjfbgjnknaaGreatDoor
