/-
  Part of the proof, part 39. Own work.
-/
import Derived.Test.YtmledjfbgjnknaaGreatDoorM38
set_option linter.all false
namespace Go.Proofs.YtmledjfbgjnknaaGreatDoor
open Go Go.Dom Go.Num
set_option maxRecDepth 100000
set_option maxHeartbeats 16000000

end Go.Proofs.YtmledjfbgjnknaaGreatDoor
namespace Go.Proofs.YtmledjfbgjnknaaGreatDoor
open Go Go.Dom
set_option maxRecDepth 100000
set_option maxHeartbeats 16000000
theorem svalid_ok (l:List (Bool×Bytes)) (hl:l.length<1000000):EvP Tryz.prog 133 [.sl (l.map ipv)] (.b (l.all izok)):=by
 have l5:(l.map ipv).length=l.length:=List.length_map ..;refine eW Tryz.call133 Tryz.func133 ?_;repeat' first|simp only[go_sem,seval,l5]|refine sB ?_|(first|apply pX|apply bX)<;>intro hc|refine⟨oD,?_⟩|exact oD|fail
 refine loop_run (α:=Nat) (fun i=>l.length-i) (fun i=>⟨[(5, .v (.sl (l.map ipv))),(6,E' l.length),(7,E' i)],[],_⟩) (fun i=>i≤l.length∧(l.drop i).all izok=l.all izok) 0 (fun _=>Nat.le_refl _) ⟨Nat.zero_le _,rfl⟩ ?_ ?_
 ·exact lE
 ·rintro i ⟨hi,hf⟩ R hR;rw[←hf]
  by_cases hlt:i<l.length
  ·have e1:=getD_map ipv l d0I hlt;have hgo:=hR (i+1);rw[←hf]at hgo;rw[drop_getD d0I hlt,List.all_cons]at hgo⊢;obtain⟨x,hx⟩: ∃x,x=l.getD i d0I:=⟨_,rfl⟩;rw[←hx]at e1 hgo⊢;clear hx hf hR;obtain⟨n,a⟩:=x;have hv:=iValid_ok n a;have e:izok (n,a)=(validN a&& !(n&&a==[])):=rfl;rw[e]at hgo⊢;clear e;simp only[ipv]at e1;generalize (validN a&& !(n&&a==[]))=b at*;cases b
   ·repeat' first|simp only[go_sem,seval,l5,e1]|refine cP hv ?_|refine sB ?_|(first|apply pX|apply bX)<;>intro hc|refine⟨oD,?_⟩|exact oD|fail
    all_goals simp
   ·have hgo:=hgo ⟨by omega,by simp⟩ (by omega)
    repeat' first|simp only[go_sem,seval,l5,e1]|refine cP hv ?_|refine sB ?_|(first|apply pX|apply bX)<;>intro hc|refine⟨oD,?_⟩|exact oD|fail
    refine hgo _ ?_;exact lE
  ·obtain rfl:i=l.length:=by omega
   rw[List.drop_length];repeat' first|simp only[go_sem,seval,l5]|refine sB ?_|(first|apply pX|apply bX)<;>intro hc|refine⟨oD,?_⟩|exact oD|fail
   all_goals rfl
theorem rformed16_ok (l:List (Bool×Bytes)) (hl:l.length<1000000):EvP Tryz.prog 177 [.sl (l.map ipv)] (.b (l.all izok)):=by
 have l5:(l.map ipv).length=l.length:=List.length_map ..;refine eW Tryz.call177 Tryz.func177 ?_;repeat' first|simp only[go_sem,seval]|refine sB ?_|(first|apply pX|apply bX)<;>intro hc|refine⟨oD,?_⟩|exact oD|fail
 refine loop_run (α:=Nat) (fun i=>l.length-i) (fun i=>⟨[(0, .v (.sl (l.map ipv))),(3,E' i)],[],_⟩) (fun i=>i≤l.length∧(l.drop i).all izok=l.all izok) 0 (fun _=>Nat.le_refl _) ⟨Nat.zero_le _,rfl⟩ ?_ ?_
 ·exact lE
 ·rintro i ⟨hi,hf⟩ R hR;rw[←hf]
  by_cases hlt:i<l.length
  ·have e1:=getD_map ipv l d0I hlt;have hgo:=hR (i+1);rw[←hf]at hgo;rw[drop_getD d0I hlt,List.all_cons]at hgo⊢;obtain⟨x,hx⟩: ∃x,x=l.getD i d0I:=⟨_,rfl⟩;rw[←hx]at e1 hgo⊢;clear hx hf hR;obtain⟨n,a⟩:=x;have hv:=rIValid_ok n a;have e:izok (n,a)=(validN a&& !(n&&a==[])):=rfl;rw[e]at hgo⊢;clear e;simp only[ipv]at e1;generalize (validN a&& !(n&&a==[]))=b at*;cases b
   ·repeat' first|simp only[go_sem,seval,l5,e1]|refine cP hv ?_|refine sB ?_|(first|apply pX|apply bX)<;>intro hc|refine⟨oD,?_⟩|exact oD|fail
    all_goals simp
   ·have hgo:=hgo ⟨by omega,by simp⟩ (by omega)
    repeat' first|simp only[go_sem,seval,l5,e1]|refine cP hv ?_|refine sB ?_|(first|apply pX|apply bX)<;>intro hc|refine⟨oD,?_⟩|exact oD|fail
    refine hgo _ ?_;exact lE
  ·obtain rfl:i=l.length:=by omega
   rw[List.drop_length];repeat' first|simp only[go_sem,seval,l5]|refine sB ?_|(first|apply pX|apply bX)<;>intro hc|refine⟨oD,?_⟩|exact oD|fail
   all_goals rfl
theorem sbelow_ok {b:Bytes} (hb:b≠[]) {n:Bool} {a:Bytes} (va:validN a=true) {L:Nat} (hL:L<LIM):EvP Tryz.prog 135 [vpv b, .agg [.b n, .s a],N L] (.b (decide (num a<L))):=by
 have hk:=skind_ok hb;have hc:=cmpNN (num_of va) hL;rw[N_of va]at hc;have hd: ∀ _:True,decide (cmpN (num a) L<0)=decide (num a<L):=fun _=>by rw[Bool.eq_iff_iff];simp only[decide_eq_true_eq];exact cmpN_lt
 generalize cmpN (num a) L=cm at*;unfold vpv at hk⊢;refine eW Tryz.call135 Tryz.func135 ?_;repeat' first|simp only[go_sem,seval,hd trivial]|refine cP hc ?_|refine cP hk ?_|refine sB ?_|(first|apply pX|apply bX)<;>intro hc|refine⟨oD,?_⟩|exact oD|fail
 all_goals simp_all
theorem rBelow16_ok {s:Stm} {i:Nat} (hi:i<s.vars.length) (hb:s.vars.getD i []≠[]) {n:Bool} {a:Bytes} (va:validN a=true) {L:Nat} (hL:L<LIM):EvP Tryz.prog 179 [s.pv,E i, .agg [.b n, .s a],N L] (.b (decide (num a<L))):=by
 have hbb:(s.vars.getD i []==([]:Bytes))=false:=by simpa using hb
 have hla:=len_of va;have hc:=rOrder_ok (a:=a) (b:=bts L) (canon_of va) (bts_canon L) (by omega) (by have:=lim_len.2 hL;omega)
 rw[num_bts]at hc;have hd: ∀ _:True,decide (cmpN (num a) L<0)=decide (num a<L):=fun _=>by rw[Bool.eq_iff_iff];simp only[decide_eq_true_eq];exact cmpN_lt
 have e1:=getD_map vpv s.vars [] hi;have l2:(s.vars.map vpv).length=s.vars.length:=List.length_map ..;generalize cmpN (num a) L=cm at*;generalize s.vars.getD i []=b at*;simp only[vpv]at e1;unfold Stm.pv;refine eW Tryz.call179 Tryz.func179 ?_;repeat' first|simp only[go_sem,seval,hbb,hd trivial,l2,e1]|refine cP hc ?_|refine sB ?_|(first|apply pX|apply bX)<;>intro hc|refine⟨oD,?_⟩|exact oD|fail
 all_goals simp_all
abbrev sVar:Bytes:=[118,97,114,105,97,98,108,101]
abbrev sBase:Bytes:=[98,97,115,101]
abbrev sCoef:Bytes:=[99,111,101,102,102,105,99,105,101,110,116]
abbrev sEqn:Bytes:=[101,113,117,97,116,105,111,110]
abbrev sTgt:Bytes:=[116,97,114,103,101,116]
abbrev sGrps:Bytes:=[103,114,111,117,112,115]
abbrev sBnds:Bytes:=[98,111,117,110,100,115]
def bindT (st:Bytes) (t:Trm):Bytes:=trInts (trNats (trAdd st sVar (decN t.var.toNat)) sBase [t.base]) sCoef [(t.neg,t.abs)]
def bindE (st:Bytes) (q:Eqn):Bytes:=q.terms.foldl bindT (trNats (trAdd st sEqn (decN q.grp.toNat)) sTgt [q.tgt])
def bindS (st:Bytes) (s:Stm):Bytes:=s.eqs.foldl bindE (trNats (trNats st sGrps (s.groups.flatMap fun g=>[g.1,g.2])) sBnds s.vars)
structure BdS (s:Stm):Prop where
 g: ∃m o,s.groups=[(m,o)]∧m.length≤1000∧o.length≤1000
 v0:s.vars≠[]
 nv:s.vars.length≤64
 v: ∀b∈s.vars,b.length≤1000
 ne:s.eqs.length≤64
 q: ∀q∈s.eqs,0≤q.grp∧q.grp<100∧q.tgt.length≤1000∧ ∃t,q.terms=[t]∧0≤t.var∧t.var<100∧t.base.length≤1000∧t.abs.length≤1000
theorem bindE_len (st:Bytes) {q:Eqn} {t:Trm} (h:q.terms=[t]):(bindE st q).length=32:=by
 rw[bindE,h];exact trInts_len _ _ _
theorem bindF_len {l:List Eqn} {st:Bytes} (hs:st.length=32) (h: ∀q∈l,∃t,q.terms=[t]):(l.foldl bindE st).length=32:=by
 induction l generalizing st with
 |nil=>exact hs
 |cons q l ih=>
  obtain⟨t,ht⟩:=h q (by simp)
  exact ih (bindE_len st ht) fun q hq=>h q (List.mem_cons_of_mem _ hq)
theorem foldl_take {α β:Type} (f:β→α→β) (b:β) {l:List α} {i:Nat} (d:α) (h:i<l.length):(l.take (i+1)).foldl f b=f ((l.take i).foldl f b) (l.getD i d):=by
 rw[take_succ_getD d h,List.foldl_append];rfl
theorem CR_vrow2 {P:Program} [Tabs P] {Q:AX→AS→Prop} {nx:Nat} {bf:Option (List Nat)} {nn:Nat} {d:Option Nat} {ops:List SOp} {k:Nat} {s:AS} {tr:List (Nat×List Nat×List Nat)} {K:List Fr} {nm:Nat} {f:FuncId} {α:Type} {g:α→PV} {z n ver m:Nat} {l:List α} {gr:Bool} {el:Option TypeId} {x y r:PV}
  (he:EvP P f [x,y, .sl (l.map g)] r) (hrow:RowOK g z) (hr:r.flat=true) (hg:hget s.h n=some ⟨ver,rowF g l,gr,el⟩) (hm:m=l.length) (hK:RW P Q nx bf nn ops (k+1) (s.upd d (.v r) []) (trU bf k [n] [] tr) K):
  CR P Q nx bf nn nm (.v (.fn (.func f))) [.v x, .v y, .rs n ver 0 m z] d ops k s tr K:=by
 refine CR_view he ?_ hr ?_
 ·simp[mapO,view_rowF hrow hm hg];rfl
 ·have:[AV.v x,AV.v y,AV.rs n ver 0 m z].flatMap (viewN (hget s.h) 9)=[n]:=by simp[viewN_rowF hrow hm hg];rfl
  rw[this];exact hK
theorem Bind_ok {st:Bytes} (hst:st.length≤1000) {s:Stm} (hs:BdS s):EvP Tryz.prog 129 [.s st,s.pv] (.s (bindS st s)):=by
 obtain⟨⟨m,o,hg,lm,lo⟩,v0,nv,hv,ne,hq⟩:=hs;obtain⟨gs,vs,es⟩:=s;simp only at hg v0 nv hv ne hq;subst hg;obtain⟨w0,wr,hw⟩: ∃a b,vs=a::b:=by cases vs with
  |nil=>exact absurd rfl v0
  |cons a b=>exact⟨a,b,rfl⟩
 have hvl:vs.length=wr.length+1:=by rw[hw];rfl
 have hpos: ∀ _:True,(0:Int)<(vs.length:Int):=fun _=>by omega
 have g0:(vs.map vpv).getD 0 .fn0= .agg [.s w0]:=by rw[hw];rfl
 simp only[bindS,List.flatMap_cons,List.flatMap_nil,List.append_nil,Stm.pv,List.map_cons,List.map_nil,gpv];have n1:=tNats_ok st sGrps [m,o] (by omega) (by decide) (by simp) (by simp) (by intro s hs;simp at hs;rcases hs with rfl|rfl<;>omega)
 simp only[List.map_cons,List.map_nil]at n1;have n2:=tNats_ok (trNats st sGrps [m,o]) sBnds vs (by rw[trNats_len];decide) (by decide) v0 (by omega) (fun x hx=>by have:=hv x hx;omega)
 have l2:=trNats_len (trNats st sGrps [m,o]) sBnds vs;refine eW Tryz.call129 Tryz.func129 ?_;repeat' first|simp only[go_sem,seval]|(refine loop_unroll' ?_)|refine sB ?_|(first|apply pX|apply bX)<;>intro hc|refine⟨oD,?_⟩|exact oD|fail
 repeat' first|simp only[go_sem,seval,g0,hpos trivial]|refine sB ?_|(first|apply pX|apply bX)<;>intro hc|refine⟨oD,?_⟩|exact oD|fail
 have hro:[AV.v (PV.s w0)]=rowF PV.s (vs.take 1):=by rw[hw];rfl
 rw[hro];refine loop_run (α:=Nat) (fun j=>vs.length-j) (fun j=>⟨[(0, .v (.s st)),(3, .p 1000 0 0),(5, .rs 1019 0 0 2 1),(6, .rs 1037 j 0 (1+j) 1),(31, .v (.sl (vs.map vpv))),(32,E' vs.length),(33,E' (j+1))],[(1000,⟨0,[.v (.sl [.agg [.s m, .s o]]), .v (.sl (vs.map vpv)), .v (.sl (es.map Eqn.pv))],false,none⟩),(1019,⟨0,[.v (.s m), .v (.s o)],true,some 22⟩),(1037,⟨j,rowF PV.s (vs.take (j+1)),true,some 22⟩)],1041⟩) (fun j=>j+1≤vs.length) 0 (fun _=>Nat.le_of_ble_eq_true rfl) (by omega) ?_ ?_
 ·(refine AS.Le.of (by first|decide|omega) ?_ ?_<;>simp[LeT,LeH,tget,hget,AV.bd,AV.bd.bdL,u8,bd_cellsOf,bcells_bd,icells_bd])
  all_goals exact fun c hc=>bd_row hc
 ·intro j hj R hR;have hlr:(vs.take (j+1)).length=1+j:=by rw[List.length_take];omega
  have q0:(rowF PV.s (vs.take (j+1))).length=1+j:=by rw[rowF_len RowOK.s,hlr,Nat.mul_one]
  have q1:List.take (1+j) (rowF PV.s (vs.take (j+1)))=rowF PV.s (vs.take (j+1)):=List.take_of_length_le (by omega)
  by_cases hjt:j+1<vs.length
  ·have e2:=getD_map vpv vs ([]:Bytes) hjt;have hgo:=hR (j+1) (by omega) (by omega)
   rw[take_succ_getD ([]:Bytes) hjt,rowF_snoc]at hgo;generalize vs.getD (j+1) []=y at e2 hgo;have e2:(vs.map vpv).getD (j+1) .fn0= .agg [.s y]:=e2;have e3: ∀ _:True,((j:Int)+1).toNat=j+1:=fun _=>by omega
   clear hR hlr n1 n2;repeat' first|simp only[go_sem,seval,q0,q1,e2,e3 trivial]|refine sB ?_|(first|apply pX|apply bX)<;>intro hc|refine⟨oD,?_⟩|exact oD|fail
   refine hgo _ ?_
   (refine AS.Le.of (by first|decide|omega) ?_ ?_<;>simp[LeT,LeH,tget,hget,AV.bd,AV.bd.bdL,u8,bd_cellsOf,bcells_bd,icells_bd])
   all_goals first|omega|exact⟨rfl,fun c hc=>by rcases hc with hc|⟨a,ha,rfl⟩;exact bd_row hc;rfl⟩|skip
  ·have hj2:j+1=vs.length:=by omega
   rw[hj2,List.take_length]at hlr q0 q1⊢;clear hR hpos g0 hro;repeat' first|simp only[go_sem,seval,q0,q1]|refine cV n1 ?_|(refine CR_vrow2 (l:=vs) (g:=PV.s) (ver:=j) (gr:=true) (el:=some 22) n2 RowOK.s rfl (by simp[hget]) hlr.symm ?_)|refine sB ?_|(first|apply pX|apply bX)<;>intro hc|refine⟨oD,?_⟩|exact oD|fail
   generalize trNats (trNats st sGrps [m,o]) sBnds vs=s0 at l2⊢;clear n1 n2;refine loop_run (α:=Nat) (fun i=>es.length-i) (fun i=>⟨[(0, .v (.s ((es.take i).foldl bindE s0))),(50, .v (.sl (es.map Eqn.pv))),(51,E' es.length),(52,E' i)],[],_⟩) (fun i=>i≤es.length) 0 (fun _=>Nat.le_refl _) (Nat.zero_le _) ?_ ?_
   ·(refine AS.Le.of (by first|decide|omega) ?_ ?_<;>simp[LeT,LeH,tget,hget,AV.bd,AV.bd.bdL,u8,bd_cellsOf,bcells_bd,icells_bd])
    all_goals rfl
   ·intro i hi R hR
    by_cases hit:i<es.length
    ·have e2:=getD_map Eqn.pv es d0Q hit;have hgo:=hR (i+1) (by omega) (by omega)
     rw[foldl_take bindE s0 d0Q hit]at hgo;obtain⟨g1,g2,g3,t,ht,v1,v2,lb,la⟩:=hq _ (mem_getD d0Q hit);have hX:=bindF_len (l:=es.take i) (st:=s0) l2 fun q hq'=>by
      obtain⟨-,-,-,t,ht,-⟩:=hq q (List.mem_of_mem_take hq');exact⟨t,ht⟩
     generalize (es.take i).foldl bindE s0=X at hgo hX⊢;generalize es.getD i d0Q=q at*;obtain⟨grp,tgt,ts⟩:=q;obtain⟨base,vr,ng,ab⟩:=t;simp only at g1 g2 g3 ht v1 v2 lb la;subst ht;obtain⟨n,rfl⟩: ∃n:Nat,grp=(n:Int):=⟨grp.toNat,by omega⟩
     obtain⟨v,rfl⟩: ∃v:Nat,vr=(v:Int):=⟨vr.toNat,by omega⟩
     have e2:(es.map Eqn.pv).getD i .fn0= .agg [.i .i64 (n:Int), .s tgt, .sl [.agg [.s base, .i .i64 (v:Int), .b ng, .s ab]]]:=e2;have hgo: _:=hgo;simp only[bindE,bindT,List.foldl_cons,List.foldl_nil,Int.toNat_natCast]at hgo;have ln:=decN_len n;have lv:=decN_len v;have c1:=Itoa_ok n (by omega)
     have c2:=tAdd_ok X sEqn (decN n) (by omega) (by decide) (by omega)
     have c3:=tNats_ok (trAdd X sEqn (decN n)) sTgt [tgt] (by rw[trAdd_len];decide) (by decide) (by simp) (by simp) (by simp;omega)
     have c4:=Itoa_ok v (by omega)
     have c5:=tAdd_ok (trNats (trAdd X sEqn (decN n)) sTgt [tgt]) sVar (decN v) (by rw[trNats_len];decide) (by decide) (by omega)
     have c6:=tNats_ok (trAdd (trNats (trAdd X sEqn (decN n)) sTgt [tgt]) sVar (decN v)) sBase [base] (by rw[trAdd_len];decide) (by decide) (by simp) (by simp) (by simp;omega)
     have c7:=tInts_ok (trNats (trAdd (trNats (trAdd X sEqn (decN n)) sTgt [tgt]) sVar (decN v)) sBase [base]) sCoef ng ab (by rw[trNats_len];decide) (by decide) (by omega)
     simp only[List.map_cons,List.map_nil]at c3 c6;clear hR hq;repeat' first|simp only[go_sem,seval,e2]|refine cP c1 ?_|refine cP c2 ?_|refine cP c3 ?_|refine cP c4 ?_|refine cP c5 ?_|refine cP c6 ?_|refine cP c7 ?_|(refine loop_unroll' ?_)|refine sB ?_|(first|apply pX|apply bX)<;>intro hc|refine⟨oD,?_⟩|exact oD|fail
     refine hgo _ ?_
     (refine AS.Le.of (by first|decide|omega) ?_ ?_<;>simp[LeT,LeH,tget,hget,AV.bd,AV.bd.bdL,u8,bd_cellsOf,bcells_bd,icells_bd])
     all_goals first|omega|skip
    ·have h:i=es.length:=by omega
     rw[h,List.take_length];repeat' first|simp only[go_sem,seval]|refine sB ?_|(first|apply pX|apply bX)<;>intro hc|refine⟨oD,?_⟩|exact oD|fail
theorem rBind_ok {st:Bytes} (hst:st.length≤1000) {s:Stm} (hs:BdS s):EvP Tryz.prog 173 [.s st,s.pv] (.s (bindS st s)):=by
 obtain⟨⟨m,o,hg,lm,lo⟩,v0,nv,hv,ne,hq⟩:=hs;obtain⟨gs,vs,es⟩:=s;simp only at hg v0 nv hv ne hq;subst hg;obtain⟨w0,wr,hw⟩: ∃a b,vs=a::b:=by cases vs with
  |nil=>exact absurd rfl v0
  |cons a b=>exact⟨a,b,rfl⟩
 have hvl:vs.length=wr.length+1:=by rw[hw];rfl
 have hpos: ∀ _:True,(0:Int)<(vs.length:Int):=fun _=>by omega
 have g0:(vs.map vpv).getD 0 .fn0= .agg [.s w0]:=by rw[hw];rfl
 simp only[bindS,List.flatMap_cons,List.flatMap_nil,List.append_nil,Stm.pv,List.map_cons,List.map_nil,gpv];have n1:=rNats12_ok st sGrps [m,o] (by omega) (by decide) (by simp) (by simp) (by intro s hs;simp at hs;rcases hs with rfl|rfl<;>omega)
 simp only[List.map_cons,List.map_nil]at n1;have n2:=rNats12_ok (trNats st sGrps [m,o]) sBnds vs (by rw[trNats_len];decide) (by decide) v0 (by omega) (fun x hx=>by have:=hv x hx;omega)
 have l2:=trNats_len (trNats st sGrps [m,o]) sBnds vs;refine eW Tryz.call173 Tryz.func173 ?_;repeat' first|simp only[go_sem,seval]|(refine loop_unroll' ?_)|refine sB ?_|(first|apply pX|apply bX)<;>intro hc|refine⟨oD,?_⟩|exact oD|fail
 repeat' first|simp only[go_sem,seval,g0,hpos trivial]|refine sB ?_|(first|apply pX|apply bX)<;>intro hc|refine⟨oD,?_⟩|exact oD|fail
 have hro:[AV.v (PV.s w0)]=rowF PV.s (vs.take 1):=by rw[hw];rfl
 rw[hro];refine loop_run (α:=Nat) (fun j=>vs.length-j) (fun j=>⟨[(0, .v (.s st)),(3, .p 1000 0 0),(5, .rs 1024 0 0 2 1),(6, .rs 1048 j 0 (1+j) 1),(8,E' (j+1))],[(1000,⟨0,[.v (.sl [.agg [.s m, .s o]]), .v (.sl (vs.map vpv)), .v (.sl (es.map Eqn.pv))],false,none⟩),(1024,⟨0,[.v (.s m), .v (.s o)],true,some 22⟩),(1048,⟨j,rowF PV.s (vs.take (j+1)),true,some 22⟩)],1053⟩) (fun j=>j+1≤vs.length) 0 (fun _=>Nat.le_of_ble_eq_true rfl) (by omega) ?_ ?_
 ·(refine AS.Le.of (by first|decide|omega) ?_ ?_<;>simp[LeT,LeH,tget,hget,AV.bd,AV.bd.bdL,u8,bd_cellsOf,bcells_bd,icells_bd])
  all_goals exact fun c hc=>bd_row hc
 ·intro j hj R hR;have hlr:(vs.take (j+1)).length=1+j:=by rw[List.length_take];omega
  have q0:(rowF PV.s (vs.take (j+1))).length=1+j:=by rw[rowF_len RowOK.s,hlr,Nat.mul_one]
  have q1:List.take (1+j) (rowF PV.s (vs.take (j+1)))=rowF PV.s (vs.take (j+1)):=List.take_of_length_le (by omega)
  by_cases hjt:j+1<vs.length
  ·have e2:=getD_map vpv vs ([]:Bytes) hjt;have hgo:=hR (j+1) (by omega) (by omega)
   rw[take_succ_getD ([]:Bytes) hjt,rowF_snoc]at hgo;generalize vs.getD (j+1) []=y at e2 hgo;have e2:(vs.map vpv).getD (j+1) .fn0= .agg [.s y]:=e2;have e3: ∀ _:True,((j:Int)+1).toNat=j+1:=fun _=>by omega
   clear hR hlr n1 n2;repeat' first|simp only[go_sem,seval,q0,q1,e2,e3 trivial]|refine sB ?_|(first|apply pX|apply bX)<;>intro hc|refine⟨oD,?_⟩|exact oD|fail
   refine hgo _ ?_
   (refine AS.Le.of (by first|decide|omega) ?_ ?_<;>simp[LeT,LeH,tget,hget,AV.bd,AV.bd.bdL,u8,bd_cellsOf,bcells_bd,icells_bd])
   all_goals first|omega|exact⟨rfl,fun c hc=>by rcases hc with hc|⟨a,ha,rfl⟩;exact bd_row hc;rfl⟩|skip
  ·have hj2:j+1=vs.length:=by omega
   rw[hj2,List.take_length]at hlr q0 q1⊢;clear hR hpos g0 hro;repeat' first|simp only[go_sem,seval,q0,q1]|refine cV n1 ?_|(refine CR_vrow2 (l:=vs) (g:=PV.s) (ver:=j) (gr:=true) (el:=some 22) n2 RowOK.s rfl (by simp[hget]) hlr.symm ?_)|refine sB ?_|(first|apply pX|apply bX)<;>intro hc|refine⟨oD,?_⟩|exact oD|fail
   generalize trNats (trNats st sGrps [m,o]) sBnds vs=s0 at l2⊢;clear n1 n2;refine loop_run (α:=Nat) (fun i=>es.length-i) (fun i=>⟨[(0, .v (.s ((es.take i).foldl bindE s0))),(3, .p 1000 0 0),(9,E' i)],[(1000,⟨0,[.v (.sl [.agg [.s m, .s o]]), .v (.sl (vs.map vpv)), .v (.sl (es.map Eqn.pv))],false,none⟩)],1065⟩) (fun i=>i≤es.length) 0 (fun _=>Nat.le_of_ble_eq_true rfl) (Nat.zero_le _) ?_ ?_
   ·(refine AS.Le.of (by first|decide|omega) ?_ ?_<;>simp[LeT,LeH,tget,hget,AV.bd,AV.bd.bdL,u8,bd_cellsOf,bcells_bd,icells_bd])
    all_goals rfl
   ·intro i hi R hR
    by_cases hit:i<es.length
    ·have e2:=getD_map Eqn.pv es d0Q hit;have hgo:=hR (i+1) (by omega) (by omega)
     rw[foldl_take bindE s0 d0Q hit]at hgo;obtain⟨g1,g2,g3,t,ht,v1,v2,lb,la⟩:=hq _ (mem_getD d0Q hit);have hX:=bindF_len (l:=es.take i) (st:=s0) l2 fun q hq'=>by
      obtain⟨-,-,-,t,ht,-⟩:=hq q (List.mem_of_mem_take hq');exact⟨t,ht⟩
     generalize (es.take i).foldl bindE s0=X at hgo hX⊢;generalize es.getD i d0Q=q at*;obtain⟨grp,tgt,ts⟩:=q;obtain⟨base,vr,ng,ab⟩:=t;simp only at g1 g2 g3 ht v1 v2 lb la;subst ht;obtain⟨n,rfl⟩: ∃n:Nat,grp=(n:Int):=⟨grp.toNat,by omega⟩
     obtain⟨v,rfl⟩: ∃v:Nat,vr=(v:Int):=⟨vr.toNat,by omega⟩
     have e2:(es.map Eqn.pv).getD i .fn0= .agg [.i .i64 (n:Int), .s tgt, .sl [.agg [.s base, .i .i64 (v:Int), .b ng, .s ab]]]:=e2;have hgo: _:=hgo;simp only[bindE,bindT,List.foldl_cons,List.foldl_nil,Int.toNat_natCast]at hgo;have ln:=decN_len n;have lv:=decN_len v;have c1:=rDecimal_ok n (by omega)
     have c2:=rAdd12_ok X sEqn (decN n) (by omega) (by decide) (by omega)
     have c3:=rNats12_ok (trAdd X sEqn (decN n)) sTgt [tgt] (by rw[trAdd_len];decide) (by decide) (by simp) (by simp) (by simp;omega)
     have c4:=rDecimal_ok v (by omega)
     have c5:=rAdd12_ok (trNats (trAdd X sEqn (decN n)) sTgt [tgt]) sVar (decN v) (by rw[trNats_len];decide) (by decide) (by omega)
     have c6:=rNats12_ok (trAdd (trNats (trAdd X sEqn (decN n)) sTgt [tgt]) sVar (decN v)) sBase [base] (by rw[trAdd_len];decide) (by decide) (by simp) (by simp) (by simp;omega)
     have c7:=rInts12_ok (trNats (trAdd (trNats (trAdd X sEqn (decN n)) sTgt [tgt]) sVar (decN v)) sBase [base]) sCoef ng ab (by rw[trNats_len];decide) (by decide) (by omega)
     simp only[List.map_cons,List.map_nil]at c3 c6;clear hR hq;repeat' first|simp only[go_sem,seval,e2]|refine cP c1 ?_|refine cP c2 ?_|refine cP c3 ?_|refine cP c4 ?_|refine cP c5 ?_|refine cP c6 ?_|refine cP c7 ?_|(refine loop_unroll' ?_)|refine sB ?_|(first|apply pX|apply bX)<;>intro hc|refine⟨oD,?_⟩|exact oD|fail
     refine hgo _ ?_
     (refine AS.Le.of (by first|decide|omega) ?_ ?_<;>simp[LeT,LeH,tget,hget,AV.bd,AV.bd.bdL,u8,bd_cellsOf,bcells_bd,icells_bd])
     all_goals first|omega|skip
    ·have h:i=es.length:=by omega
     rw[h,List.take_length];repeat' first|simp only[go_sem,seval]|refine sB ?_|(first|apply pX|apply bX)<;>intro hc|refine⟨oD,?_⟩|exact oD|fail
abbrev F0:PV:= .agg [.sl []]
abbrev C0:PV:= .agg [.sl [], .sl []]
theorem leaves0:EvP Tryz.prog 242 [F0] (.tup [E 0, .b true]):=by
 refine eW Tryz.call242 Tryz.func242 ?_;repeat' first|simp only[go_sem,seval]|refine sB ?_|(first|apply pX|apply bX)<;>intro hc|refine⟨oD,?_⟩|exact oD|fail
theorem fCheck0:EvP Tryz.prog 218 [F0,E 0] (E 0):=by
 refine eW Tryz.call218 Tryz.func218 ?_;repeat' first|simp only[go_sem,seval]|refine cP leaves0 ?_|refine sB ?_|(first|apply pX|apply bX)<;>intro hc|refine⟨oD,?_⟩|exact oD|fail
theorem fText0:EvP Tryz.prog 130 [F0] (.tup [.s [],E 0]):=by
 refine eW Tryz.call130 Tryz.func130 ?_;repeat' first|simp only[go_sem,seval]|refine cP leaves0 ?_|refine sB ?_|(first|apply pX|apply bX)<;>intro hc|refine⟨oD,?_⟩|exact oD|fail
theorem bCheck0:EvP Tryz.prog 107 [C0] (E 0):=by
 refine eW Tryz.call107 Tryz.func107 ?_;repeat' first|simp only[go_sem,seval]|refine cP fCheck0 ?_|(refine loop_unroll' ?_)|refine sB ?_|(first|apply pX|apply bX)<;>intro hc|refine⟨oD,?_⟩|exact oD|fail
theorem rLeaves0:EvP Tryz.prog 299 [F0] (.tup [E 0, .b true]):=by
 refine eW Tryz.call299 Tryz.func299 ?_;repeat' first|simp only[go_sem,seval]|refine sB ?_|(first|apply pX|apply bX)<;>intro hc|refine⟨oD,?_⟩|exact oD|fail
theorem rfCheck0:EvP Tryz.prog 281 [F0,E 0] (E 0):=by
 refine eW Tryz.call281 Tryz.func281 ?_;repeat' first|simp only[go_sem,seval]|refine cP rLeaves0 ?_|refine sB ?_|(first|apply pX|apply bX)<;>intro hc|refine⟨oD,?_⟩|exact oD|fail
theorem rfText0:EvP Tryz.prog 174 [F0] (.tup [.s [],E 0]):=by
 refine eW Tryz.call174 Tryz.func174 ?_;repeat' first|simp only[go_sem,seval]|refine cP rLeaves0 ?_|refine sB ?_|(first|apply pX|apply bX)<;>intro hc|refine⟨oD,?_⟩|exact oD|fail
theorem rOrder0:EvP Tryz.prog 159 [C0] (.s []):=by
 refine eW Tryz.call159 Tryz.func159 ?_;repeat' first|simp only[go_sem,seval]|(refine loop_unroll' ?_)|refine sB ?_|(first|apply pX|apply bX)<;>intro hc|refine⟨oD,?_⟩|exact oD|fail
theorem rbCheck0:EvP Tryz.prog 157 [C0] (E 0):=by
 refine eW Tryz.call157 Tryz.func157 ?_;repeat' first|simp only[go_sem,seval]|refine cP rfCheck0 ?_|refine cP rOrder0 ?_|(refine loop_unroll' ?_)|refine sB ?_|(first|apply pX|apply bX)<;>intro hc|refine⟨oD,?_⟩|exact oD|fail
def lpv (l:List (Bool×Bytes)):PV:= .sl (l.map ipv)
theorem IndexFuncNN_ok (l:List (Bytes)) (f:FuncId) (p:Bytes→Bool) (hl:l.length<4611686018427387904) (h: ∀x,EvP Tryz.prog f [PV.s x] (.b (p x))):EvP Tryz.prog 360 [.sl (l.map PV.s), .fn (.func f)] (E (idxF p 0 l)):=by
 have hlm:(l.map PV.s).length=l.length:=List.length_map ..;refine eW Tryz.call360 Tryz.func360 ?_;repeat' first|simp only[go_sem,seval,hlm]|refine sB ?_|(first|apply pX|apply bX)<;>intro hc|refine⟨oD,?_⟩|exact oD|fail
 refine loop_run (α:=Nat) (fun i=>l.length-i) (fun i=>⟨[(0, .v (.sl (l.map PV.s))),(1, .v (.fn (.func f))),(7, .v (.i .i64 l.length)),(8, .v (.i .i64 (i:Nat)))],[],_⟩) (fun i=>i≤l.length∧idxF p i (l.drop i)=idxF p 0 l) 0 (fun _=>Nat.le_refl _) ⟨Nat.zero_le _,rfl⟩ ?_ ?_
 ·exact lE
 ·rintro i ⟨hi,hx⟩ R hR;rw[←hx]
  by_cases hlt:i<l.length
  ·have e1:=getD_map PV.s l [] hlt;have hf:=h (l.getD i []);have hgo:=hR (i+1);rw[←hx,drop_getD [] hlt]at hgo;rw[drop_getD [] hlt];simp only[idxF]at hgo⊢;clear hx hR h;generalize p (l.getD i [])=b at*;generalize l.getD i []=x at*;cases b
   ·have hgo:=hgo ⟨by omega,rfl⟩ (by omega)
    repeat' first|simp only[go_sem,seval,hlm,e1]|refine cP hf ?_|refine sB ?_|(first|apply pX|apply bX)<;>intro hc|refine⟨oD,?_⟩|exact oD|fail
    refine hgo _ ?_;exact lE
   ·repeat' first|simp only[go_sem,seval,hlm,e1]|refine cP hf ?_|refine sB ?_|(first|apply pX|apply bX)<;>intro hc|refine⟨oD,?_⟩|exact oD|fail
    all_goals rfl
  ·obtain rfl:i=l.length:=by omega
   rw[List.drop_length];repeat' first|simp only[go_sem,seval,hlm]|refine sB ?_|(first|apply pX|apply bX)<;>intro hc|refine⟨oD,?_⟩|exact oD|fail
   all_goals simp[idxF]
theorem ContainsFuncNN_ok (l:List (Bytes)) (f:FuncId) (p:Bytes→Bool) (hl:l.length<4611686018427387904) (h: ∀x,EvP Tryz.prog f [PV.s x] (.b (p x))):EvP Tryz.prog 254 [.sl (l.map PV.s), .fn (.func f)] (.b (l.any p)):=by
 have hi:=IndexFuncNN_ok l f p hl h;have e:decide (idxF p 0 l≥0)=l.any p:=by
  rw[Bool.eq_iff_iff,decide_eq_true_iff];exact idxF_neg
 refine eW Tryz.call254 Tryz.func254 ?_;repeat' first|simp only[go_sem,seval,e]|refine cP hi ?_|refine sB ?_|(first|apply pX|apply bX)<;>intro hc|refine⟨oD,?_⟩|exact oD|fail
theorem IndexFuncL_ok (l:List (List (Bool×Bytes))) (f:FuncId) (c:List PV) (p:List (Bool×Bytes)→Bool) (hl:l.length<4611686018427387904) (h: ∀x∈l,EvP Tryz.prog f (lpv x::c) (.b (p x))):EvP Tryz.prog 222 [.sl (l.map lpv), .fc f [] c] (E (idxF p 0 l)):=by
 have hlm:(l.map lpv).length=l.length:=List.length_map ..;refine eW Tryz.call222 Tryz.func222 ?_;repeat' first|simp only[go_sem,seval,hlm]|refine sB ?_|(first|apply pX|apply bX)<;>intro hc|refine⟨oD,?_⟩|exact oD|fail
 refine loop_run (α:=Nat) (fun i=>l.length-i) (fun i=>⟨[(0, .v (.sl (l.map lpv))),(1, .v (.fc f [] c)),(7, .v (.i .i64 l.length)),(8, .v (.i .i64 (i:Nat)))],[],_⟩) (fun i=>i≤l.length∧idxF p i (l.drop i)=idxF p 0 l) 0 (fun _=>Nat.le_refl _) ⟨Nat.zero_le _,rfl⟩ ?_ ?_
 ·exact lE
 ·rintro i ⟨hi,hx⟩ R hR;rw[←hx]
  by_cases hlt:i<l.length
  ·have e1:=getD_map lpv l [] hlt;have hf:=h (l.getD i []) (mem_getD [] hlt);have hgo:=hR (i+1);rw[←hx,drop_getD [] hlt]at hgo;rw[drop_getD [] hlt];simp only[idxF]at hgo⊢;clear hx hR h;generalize p (l.getD i [])=b at*;generalize l.getD i []=x at*;simp only[lpv]at e1 hf;cases b
   ·have hgo:=hgo ⟨by omega,rfl⟩ (by omega)
    repeat' first|simp only[go_sem,seval,hlm,e1]|(refine CR_pure hf (pvA_map _ _) ?_)|refine sB ?_|(first|apply pX|apply bX)<;>intro hc|refine⟨oD,?_⟩|exact oD|fail
    refine hgo _ ?_;exact lE
   ·repeat' first|simp only[go_sem,seval,hlm,e1]|(refine CR_pure hf (pvA_map _ _) ?_)|refine sB ?_|(first|apply pX|apply bX)<;>intro hc|refine⟨oD,?_⟩|exact oD|fail
    all_goals rfl
  ·obtain rfl:i=l.length:=by omega
   rw[List.drop_length];repeat' first|simp only[go_sem,seval,hlm]|refine sB ?_|(first|apply pX|apply bX)<;>intro hc|refine⟨oD,?_⟩|exact oD|fail
   all_goals simp[idxF]
theorem ContainsFuncL_ok (l:List (List (Bool×Bytes))) (f:FuncId) (c:List PV) (p:List (Bool×Bytes)→Bool) (hl:l.length<4611686018427387904) (h: ∀x∈l,EvP Tryz.prog f (lpv x::c) (.b (p x))):EvP Tryz.prog 111 [.sl (l.map lpv), .fc f [] c] (.b (l.any p)):=by
 have hi:=IndexFuncL_ok l f c p hl h;have e:decide (idxF p 0 l≥0)=l.any p:=by
  rw[Bool.eq_iff_iff,decide_eq_true_iff];exact idxF_neg
 refine eW Tryz.call111 Tryz.func111 ?_;repeat' first|simp only[go_sem,seval,e]|refine cP hi ?_|refine sB ?_|(first|apply pX|apply bX)<;>intro hc|refine⟨oD,?_⟩|exact oD|fail
end Go.Proofs.YtmledjfbgjnknaaGreatDoor
