/-
  Part of the proof, part Y31. Own work.
-/
import Derived.Test.YtmledjfbgjnknaaGreatDoorY29
set_option linter.all false
namespace Go.Proofs.YtmledjfbgjnknaaGreatDoor
open Go Go.Dom Go.Num
set_option maxRecDepth 100000
set_option maxHeartbeats 8000000
theorem times1_ok (n1 n2 nm:Nat) (hne:n1≠n2) {a b m:Nat} (o:Bytes) (el el2:Option TypeId) (ha:a<18446744073709551616) (hb:b<18446744073709551616) (hm:m<18446744073709551616) (h0:0<m):EvA Tryz.prog 216 nm [(n1,⟨0,[.v (N a)],false,el⟩),(n2,⟨0,[.v (N m), .v (.s o)],false,el2⟩)] [.v (N b), .p n1 0 0, .p n2 0 0] (.tup []) [(n1,some ⟨0,[.v (N (a*b%m))],false,el⟩)]:=by
 have hx:=mMulN ha hb hm h0;refine EvA.w mixed Tryz.call216 Tryz.func216 rfl (tyC.1 _ _ _ (by cbv)) (tyC.2 _ _ (by cbv)) (obs:=[⟨0,[.v (N a)],false,el⟩,⟨0,[.v (N m), .v (.s o)],false,el2⟩]) (args:=[.v (N b), .p 0 0 0, .p 1 0 0]) (fs:=[some (some ⟨0,[.v (N (a*b%m))],false,el⟩),none]) (j:=none) (nw:=none) (v:= .tup []) (ns:=[n1,n2]) (obsA:=[⟨0,[.v (N a)],false,el⟩,⟨0,[.v (N m), .v (.s o)],false,el2⟩]) rfl ?_ (by simp) (by simp[hne]) rfl (by simp[mapO,AObj.ren,AV.ren,AV.ren.renL]) (by simp[mapO,AV.ren,ixOf,hne,Ne.symm hne]) (by simp[AV.ren,AV.ren.renL]) (by simp[upsOf,outs,AObj.ren,AV.ren,AV.ren.renL])
 simp only[go_sem,seval];repeat' first|simp only[go_sem,seval,true_or,or_true,false_or,or_false,Option.some.injEq,RetA,resLA,outV,outC,outO,viewC,hfV,foV,finH,finN,mkResA,mapO_outC_bcells,AV.ren,AV.ren.renL,renL_bcells]|refine cP hx ?_|refine sB ?_|(first|apply pX|apply bX)<;>intro hc|refine⟨oD,?_⟩|exact oD|fail
 all_goals skip
theorem mks1 {x:AV}:(List.replicate 1 [x]).flatten=[x]:=rfl
theorem drop1 {x:AV}:List.drop 1 [x]=[]:=rfl
theorem take1 {x:AV}:List.take 1 [x]=[x]:=rfl
theorem set1 {x y:AV}:List.set [x] 0 y=[y]:=rfl
theorem blen0 {n:Nat}:n/2^blen n=0:=by
 refine Nat.div_eq_of_lt ?_;unfold blen;split
 ·rename_i h;rw[h];decide
 ·rename_i h;exact Nat.lt_log2_self
theorem Exp1_ok {m x e:Bytes} (lm:m.length≤8) (hx:rHas m [] x=true) (he:validN e=true):EvP Tryz.prog 47 [G m [], .s x, .agg [.b false, .s e]] (.tup [N (num x^num e%num m),E 0]):=by
 obtain⟨vx,lx,vm,ox⟩:validN x=true∧num x<num m∧validN m=true∧0<num m:=by
  have h:=hx;simp only[rHas,goodB,Bool.and_eq_true,decide_eq_true_eq]at h;exact⟨h.1.1.1.2,h.1.2,h.1.1.1.1.1.1.1,by have:=h.1.1.1.1.2;omega⟩
 have hn:=num8 lm;have c1:=natValid x;rw[vx]at c1;have c2:=iValid_ok false e;rw[he]at c2;have c3:=pwCheck_ok m;rw[pwE0.2 (rHas_good hx)]at c3;have c4:=pwhas_ok lm x;rw[hx]at c4;have hch:EvP Tryz.prog 214 [G m [], .sl [.s x], .sl [.agg [.b false, .s e]], .b true] (E 0):=by
  refine eW Tryz.call214 Tryz.func214 ?_;repeat' first|simp only[go_sem,seval,List.getD_cons_zero,List.getD_cons_succ]|refine cP c1 ?_|refine cP c2 ?_|refine cP c3 ?_|refine cP c4 ?_|(refine loop_unroll' ?_)|refine sB ?_|(first|apply pX|apply bX)<;>intro hc|refine⟨oD,?_⟩|exact oD|fail
 have hbt:=Bits_ok he;have hbi:=fun i hi=>Bit_ok he i hi
 clear c1 c2 c3 c4;have hp:EvP Tryz.prog 102 [G m [], .sl [.s x], .sl [.agg [.b false, .s e]]] (.tup [N (num x^num e%num m),E 0]):=by
  rw[←N_of vx];rw[←N_of vx]at hch;obtain⟨xm,hxm⟩: ∃xm,xm=num x:=⟨_,rfl⟩;obtain⟨n,hnn⟩: ∃n,n=num e:=⟨_,rfl⟩;obtain⟨M,hM⟩: ∃M,M=num m:=⟨_,rfl⟩;have eG:G m []= .agg [N M, .s []]:=by rw[hM,N_of vm]
  rw[eG]at hch⊢;rw[←hxm]at hch lx;rw[←hM]at lx hn ox;rw[←hnn]at hbt hbi;rw[←hxm,←hnn,←hM];have hM8:8<M:=by rw[hM];have:=rHas_good hx;simp[goodB]at this;exact this.2
  have hxw:xm<18446744073709551616:=by omega
  clear hx;have hbl:blen n<1000000:=by
   have h1:n<2^1024:=by
    rw[hnn];refine Nat.lt_of_lt_of_le (num_lt e) ?_;have le:e.length≤128:=by simp[validN]at he;exact he.1
    exact Nat.le_trans (Nat.pow_le_pow_right (by decide) le) (by decide+kernel)
   unfold blen;split
   ·decide
   ·rename_i h;have:=(Nat.log2_lt h).2 h1;omega
  have hmx: ∀ _:True,(if(blen n:Int)>0 then(blen n:Int)else 0)=(blen n:Int):=fun _=>by split<;>omega
  have hM1:1%M=1:=Nat.mod_eq_of_lt (by omega)
  have hw1: ∀ _:True,IntKind.i64.wrap ((blen n:Int)-1)=(blen n:Int)-1:=fun _=>IntWalk.i64_in _ (by omega)
  refine eW Tryz.call102 Tryz.func102 ?_;repeat' first|simp only[go_sem,seval,List.getD_cons_zero,List.getD_cons_succ,mks1,drop1,take1,set1,hmx trivial,hw1 trivial,one_eq]|refine cP hch ?_|refine cP hbt ?_|refine cP Of1 ?_|refine sB ?_|(first|apply pX|apply bX)<;>intro hc|refine⟨oD,?_⟩|exact oD|fail
  refine loop_unroll' ?_;repeat' first|simp only[go_sem,seval,List.getD_cons_zero,List.getD_cons_succ,mks1,drop1,take1,set1,hmx trivial,hw1 trivial,one_eq]|refine cP hch ?_|refine cP hbt ?_|refine cP Of1 ?_|refine sB ?_|(first|apply pX|apply bX)<;>intro hc|refine⟨oD,?_⟩|exact oD|fail
  refine loop_unroll' ?_;repeat' first|simp only[go_sem,seval,List.getD_cons_zero,List.getD_cons_succ,mks1,drop1,take1,set1,hmx trivial,hw1 trivial,one_eq]|refine cP hch ?_|refine cP hbt ?_|refine cP Of1 ?_|refine sB ?_|(first|apply pX|apply bX)<;>intro hc|refine⟨oD,?_⟩|exact oD|fail
  refine loop_run (α:=Nat) (fun k=>k) (fun k=>⟨[(2, .v (.sl [.agg [.b false, .s e]])),(9, .rs 1017 0 0 1 1),(15, .p 1052 0 0),(16, .fn (.func 216) [] [.p 1052 0 0, .p 1000 0 0]),(17, .v (.i .i64 ((k:Int)-1)))],[(1052,⟨0,[.v (N (xm^(n/2^k)%M))],false,some 22⟩),(1017,⟨0,[.v (N xm)],false,none⟩),(1000,⟨0,[.v (N M), .v (.s [])],false,none⟩)],_⟩) (fun k=>k≤blen n) (blen n) (fun _=>Nat.le_refl _) (Nat.le_refl _) ?_ ?_
  ·(refine AS.Le.of (by first|decide|omega) ?_ ?_<;>simp[LeT,LeH,tget,hget,AV.bd,AV.bd.bdL,u8,bd_cellsOf,bcells_bd,icells_bd])
   rw[blen0,Nat.pow_zero,hM1]
  ·intro k hk R hR
   cases k with
   |zero=>
    repeat' first|simp only[go_sem,seval]|refine sB ?_|(first|apply pX|apply bX)<;>intro hc|refine⟨oD,?_⟩|exact oD|fail
    rw[Nat.div_one]
   |succ k=>
    obtain⟨z,hz⟩: ∃z,z=xm^(n/2^(k+1))%M:=⟨_,rfl⟩;have hzm:z<M:=by rw[hz];exact Nat.mod_lt _ (by omega)
    have e1: ∀ _:True,((k+1:Nat):Int)-1=(k:Int):=fun _=>by omega
    have hge: ∀ _:True,decide ((k:Int)≥0)=true:=fun _=>by simp
    have hbit:=hbi k (by omega)
    have hdec:n.testBit k=decide (n/2^k%2=1):=Nat.testBit_eq_decide_div_mod_eq;rw[hdec]at hbit;have hwk: ∀ _:True,IntKind.i64.wrap ((k:Int)-1)=(k:Int)-1:=fun _=>IntWalk.i64_in _ (by omega)
    have hdd:n/2^(k+1)=n/2^k/2:=by rw[Nat.pow_succ,Nat.div_div_eq_div_mul]
    have hzz:z*z%M<M:=Nat.mod_lt _ (by omega)
    rw[←hz];have hx1:=fun nm=>times1_ok 1052 1000 nm (by decide) [] (some 22) none (a:=z) (b:=z) (m:=M) (by omega) (by omega) (by omega) (by omega)
    have hx2:=fun nm=>times1_ok 1052 1000 nm (by decide) [] (some 22) none (a:=z*z%M) (b:=xm) (m:=M) (by omega) (by omega) (by omega) (by omega)
    repeat' first|simp only[go_sem,seval,e1 trivial,hge trivial,List.getD_cons_zero,List.getD_cons_succ,take1]|(refine CR_eff (hx1 _) (by simp[hget]) ?_)|refine sB ?_|(first|apply pX|apply bX)<;>intro hc|refine⟨oD,?_⟩|exact oD|fail
    refine loop_unroll' ?_;repeat' first|simp only[go_sem,seval,hge trivial,hwk trivial,List.getD_cons_zero,List.getD_cons_succ,take1]|refine cP hbit ?_|(refine CR_eff (hx2 _) (by simp[hget]) ?_)|(refine loop_unroll' ?_)|refine sB ?_|(first|apply pX|apply bX)<;>intro hc|refine⟨oD,?_⟩|exact oD|fail
    ·have hb2:n/2^k=2*(n/2^(k+1))+1:=by omega
     refine hR k (by omega) (by omega) _ ?_
     have ez:z*z%M*xm%M=xm^(n/2^k)%M:=by
      have e3:z*z%M=xm^(n/2^(k+1))*xm^(n/2^(k+1))%M:=by rw[hz,←Nat.mul_mod]
      rw[hb2,Nat.pow_succ,Nat.two_mul,Nat.pow_add,e3,Nat.mod_mul_mod]
     rw[←ez];exact lE
    ·have hb2:n/2^k=2*(n/2^(k+1)):=by omega
     refine hR k (by omega) (by omega) _ ?_
     have ez:z*z%M=xm^(n/2^k)%M:=by
      rw[hb2,Nat.two_mul,Nat.pow_add,hz,←Nat.mul_mod]
     rw[←ez];exact lE
 refine eW Tryz.call47 Tryz.func47 ?_;repeat' first|simp only[go_sem,seval]|refine cP hp ?_|refine sB ?_|(first|apply pX|apply bX)<;>intro hc|refine⟨oD,?_⟩|exact oD|fail
theorem rHas_num {m x:Bytes} (hx:rHas m [] x=true):validN x=true∧num x<num m∧validN m=true∧8<num m:=by
 have h:=hx;simp only[rHas,goodB,Bool.and_eq_true,decide_eq_true_eq]at h;exact⟨h.1.1.1.2,h.1.2,h.1.1.1.1.1.1.1,h.1.1.1.1.2⟩
theorem Square_ok {m:Bytes} (lm:m.length≤8) {vs:List Bytes} (sd:Bytes) {i:Nat} (hv:vs.all validN=true) (hi:i<vs.length) (hl:vs.length<1000000) (hx:rHas m [] (vs.getD i [])=true):EvP Tryz.prog 37 [G m [],T vs sd i] (.tup [N (num (vs.getD i [])*num (vs.getD i [])%num m),T vs sd (i+1:Nat),E 0]):=by
 obtain⟨vx,lx,vm,m8⟩:=rHas_num hx;have v1:=natValid m;rw[vm]at v1;have v2:EvP Tryz.prog 20 [.s []] (.b true):=natValid [];have hw:=wellFormed_ok sd hv (show i<1000000 by omega) hl
 have hg:=good_ok m [];rw[rHas_good hx]at hg;have hB:=Below_ok sd hv vm (by intro h;subst h;simp[num]at m8) hi hl
 unfold drawR at hB;rw[if_neg (by omega)]at hB
 have hh:=rHas_ok lm [] (vs.getD i []);rw[hx]at hh;have hn:=num8 lm;have hm:=mMulN (a:=num (vs.getD i [])) (b:=num (vs.getD i [])) (m:=num m) (by omega) (by omega) hn (by omega)
 rw[N_of vx,N_of vm]at hm;clear hx lx;generalize vs.getD i []=x at*;refine eW Tryz.call37 Tryz.func37 ?_;repeat' first|simp only[go_sem,seval]|refine cP v1 ?_|refine cP v2 ?_|refine cP hw ?_|refine cP hg ?_|refine cP hB ?_|refine cP hh ?_|refine cP hm ?_|(refine loop_unroll' ?_)|refine sB ?_|(first|apply pX|apply bX)<;>intro hc|refine⟨oD,?_⟩|exact oD|fail
 all_goals skip
theorem pvA_map (x:PV) (l:List PV):pvArgs (.v x::l.map .v)=some (x::l):=by
 have h: ∀l:List PV,pvArgs (l.map .v)=some l:=by
  intro l
  induction l with
  |nil=>rfl
  |cons y l ih=>
   unfold pvArgs at ih⊢;rw[List.map_cons,mapO,ih];rfl
 have:=h (x::l);exact this
abbrev oG (m o:Bytes):AObj:=⟨0,[.v (.s m), .v (.s o)],false,none⟩
abbrev oS (x:Bytes):AObj:=⟨0,[.v (.s x)],false,some 22⟩
abbrev oK (n:Int):AObj:=⟨0,[.v (E n)],false,some 3⟩
theorem mk2_ok (n nm:Nat) {m:Bytes} {vs vs':List Bytes} {sd sd':Bytes} {i j:Int} {x:Bytes} (h:EvP Tryz.prog 37 [G m [],T vs sd i] (.tup [.s x,T vs' sd' j,E 0])):EvA Tryz.prog 36 nm [(n,oG m [])] [.v (T vs sd i), .p n 0 0] (.tup [.v (.s x), .v (T vs' sd' j), .v (E 0)]) []:=by
 refine EvA.w mixed Tryz.call36 Tryz.func36 rfl (tyC.1 _ _ _ (by cbv)) (tyC.2 _ _ (by cbv)) (obs:=[oG m []]) (args:=[.v (T vs sd i), .p 0 0 0]) (fs:=[none]) (j:=none) (nw:=none) (v:= .tup [.v (.s x), .v (T vs' sd' j), .v (E 0)]) (ns:=[n]) (obsA:=[oG m []]) rfl ?_ (by simp) (by simp) rfl (by simp[mapO,AObj.ren,AV.ren,AV.ren.renL]) (by simp[mapO,AV.ren,ixOf]) (by simp[AV.ren,AV.ren.renL]) (by simp[upsOf,outs,AObj.ren,AV.ren,AV.ren.renL])
 simp only[go_sem,seval];repeat' first|simp only[go_sem,seval,true_or,or_true,false_or,or_false,Option.some.injEq,RetA,resLA,outV,outC,outO,viewC,hfV,foV,finH,finN,mkResA,mapO_outC_bcells,AV.ren,AV.ren.renL,renL_bcells]|refine cP h ?_|refine sB ?_|(first|apply pX|apply bX)<;>intro hc|refine⟨oD,?_⟩|exact oD|fail
theorem mk3_ok (n k nm:Nat) (hne:n≠k) {m p q x:Bytes} {b:Bool} {e:Int} (h:EvP Tryz.prog 39 [G m [],G p q, .s x] (.tup [.b b,E e])):EvA Tryz.prog 38 nm [(n,oG m []),(k,oG p q)] [.v (.s x), .p n 0 0, .p k 0 0] (.v (.b (b&&e==0))) []:=by
 refine EvA.w mixed Tryz.call38 Tryz.func38 rfl (tyC.1 _ _ _ (by cbv)) (tyC.2 _ _ (by cbv)) (obs:=[oG m [],oG p q]) (args:=[.v (.s x), .p 0 0 0, .p 1 0 0]) (fs:=[none,none]) (j:=none) (nw:=none) (v:= .v (.b (b&&e==0))) (ns:=[n,k]) (obsA:=[oG m [],oG p q]) rfl ?_ (by simp) (by simp[hne]) rfl (by simp[mapO,AObj.ren,AV.ren,AV.ren.renL]) (by simp[mapO,AV.ren,ixOf,hne,Ne.symm hne]) (by simp[AV.ren,AV.ren.renL]) (by simp[upsOf,outs,AObj.ren,AV.ren,AV.ren.renL])
 simp only[go_sem,seval];repeat' first|simp only[go_sem,seval,true_or,or_true,false_or,or_false,Option.some.injEq,RetA,resLA,outV,outC,outO,viewC,hfV,foV,finH,finN,mkResA,mapO_outC_bcells,AV.ren,AV.ren.renL,renL_bcells]|refine cP h ?_|refine sB ?_|(first|apply pX|apply bX)<;>intro hc|refine⟨oD,?_⟩|exact oD|fail
 all_goals simp_all
theorem mk4_ok (n nm:Nat) {ord:Bytes} {vs vs':List Bytes} {sd sd':Bytes} {i j:Int} {x:Bytes} (h:EvP Tryz.prog 42 [T vs sd i, .s ord] (.tup [.s x,T vs' sd' j,E 0])):EvA Tryz.prog 41 nm [(n,oS ord)] [.v (T vs sd i), .p n 0 0] (.tup [.v (.s x), .v (T vs' sd' j), .v (E 0)]) []:=by
 refine EvA.w mixed Tryz.call41 Tryz.func41 rfl (tyC.1 _ _ _ (by cbv)) (tyC.2 _ _ (by cbv)) (obs:=[oS ord]) (args:=[.v (T vs sd i), .p 0 0 0]) (fs:=[none]) (j:=none) (nw:=none) (v:= .tup [.v (.s x), .v (T vs' sd' j), .v (E 0)]) (ns:=[n]) (obsA:=[oS ord]) rfl ?_ (by simp) (by simp) rfl (by simp[mapO,AObj.ren,AV.ren,AV.ren.renL]) (by simp[mapO,AV.ren,ixOf]) (by simp[AV.ren,AV.ren.renL]) (by simp[upsOf,outs,AObj.ren,AV.ren,AV.ren.renL])
 simp only[go_sem,seval];repeat' first|simp only[go_sem,seval,true_or,or_true,false_or,or_false,Option.some.injEq,RetA,resLA,outV,outC,outO,viewC,hfV,foV,finH,finN,mkResA,mapO_outC_bcells,AV.ren,AV.ren.renL,renL_bcells]|refine cP h ?_|refine sB ?_|(first|apply pX|apply bX)<;>intro hc|refine⟨oD,?_⟩|exact oD|fail
theorem mk5_ok (n k nm:Nat) (hne:n≠k) {ord x:Bytes} {kd:Int} {d:Bytes} (h:EvP Tryz.prog 45 [.s x, .s ord] (.tup [.s d,E 0])):EvA Tryz.prog 44 nm [(n,oS ord),(k,oK kd)] [.v (.s x), .p n 0 0, .p k 0 0] (.v (.b (kd==0||d==[1]))) []:=by
 refine EvA.w mixed Tryz.call44 Tryz.func44 rfl (tyC.1 _ _ _ (by cbv)) (tyC.2 _ _ (by cbv)) (obs:=[oS ord,oK kd]) (args:=[.v (.s x), .p 0 0 0, .p 1 0 0]) (fs:=[none,none]) (j:=none) (nw:=none) (v:= .v (.b (kd==0||d==[1]))) (ns:=[n,k]) (obsA:=[oS ord,oK kd]) rfl ?_ (by simp) (by simp[hne]) rfl (by simp[mapO,AObj.ren,AV.ren,AV.ren.renL]) (by simp[mapO,AV.ren,ixOf,hne,Ne.symm hne]) (by simp[AV.ren,AV.ren.renL]) (by simp[upsOf,outs,AObj.ren,AV.ren,AV.ren.renL])
 simp only[go_sem,seval];repeat' first|simp only[go_sem,seval,true_or,or_true,false_or,or_false,Option.some.injEq,RetA,resLA,outV,outC,outO,viewC,hfV,foV,finH,finN,mkResA,mapO_outC_bcells,AV.ren,AV.ren.renL,renL_bcells]|refine cP h ?_|refine cP Of1 ?_|refine sB ?_|(first|apply pX|apply bX)<;>intro hc|refine⟨oD,?_⟩|exact oD|fail
 all_goals simp_all
theorem until1_ok (n k nm:Nat) (hne:n≠k) {m p q:Bytes} {vs vs':List Bytes} {sd sd':Bytes} {i j:Int} {x:Bytes} (h:EvP Tryz.prog 37 [G m [],T vs sd i] (.tup [.s x,T vs' sd' j,E 0])) (hg:EvP Tryz.prog 39 [G m [],G p q, .s x] (.tup [.b true,E 0])):
  EvA Tryz.prog 35 nm [(n,oG m []),(k,oG p q)] [.v (T vs sd i), .fn (.func 36) [] [.p n 0 0], .fn (.func 38) [] [.p n 0 0, .p k 0 0]] (.tup [.v (.s x), .v (T vs' sd' j), .v (E 0)]) []:=by
 have h2:=fun nm=>mk2_ok 0 nm h
 have h3:=fun nm=>mk3_ok 0 1 nm (by decide) hg
 refine EvA.w mixed Tryz.call35 Tryz.func35 rfl (tyC.1 _ _ _ (by cbv)) (tyC.2 _ _ (by cbv)) (obs:=[oG m [],oG p q]) (args:=[.v (T vs sd i), .fn (.func 36) [] [.p 0 0 0], .fn (.func 38) [] [.p 0 0 0, .p 1 0 0]]) (fs:=[none,none]) (j:=none) (nw:=none) (v:= .tup [.v (.s x), .v (T vs' sd' j), .v (E 0)]) (ns:=[n,k]) (obsA:=[oG m [],oG p q]) rfl ?_ (by simp) (by simp[hne]) rfl (by simp[mapO,AObj.ren,AV.ren,AV.ren.renL]) (by simp[mapO,AV.ren,AV.ren.renL,ixOf,hne,Ne.symm hne]) (by simp[AV.ren,AV.ren.renL]) (by simp[upsOf,outs,AObj.ren,AV.ren,AV.ren.renL])
 simp only[go_sem,seval];repeat' first|simp only[go_sem,seval,true_or,or_true,false_or,or_false,Option.some.injEq,RetA,resLA,outV,outC,outO,viewC,hfV,foV,finH,finN,mkResA,mapO_outC_bcells,AV.ren,AV.ren.renL,renL_bcells]|(refine CR_eff (h2 _) (by simp[hget]) ?_)|(refine CR_eff (h3 _) (by simp[hget]) ?_)|(refine loop_unroll' ?_)|refine sB ?_|(first|apply pX|apply bX)<;>intro hc|refine⟨oD,?_⟩|exact oD|fail
theorem until2_ok (n k nm:Nat) (hne:n≠k) {ord x d:Bytes} {kd:Int} {vs vs':List Bytes} {sd sd':Bytes} {i j:Int} (h:EvP Tryz.prog 42 [T vs sd i, .s ord] (.tup [.s x,T vs' sd' j,E 0])) (hg:EvP Tryz.prog 45 [.s x, .s ord] (.tup [.s d,E 0])) (hd:(kd==0||d==[1])=true):
  EvA Tryz.prog 35 nm [(n,oS ord),(k,oK kd)] [.v (T vs sd i), .fn (.func 41) [] [.p n 0 0], .fn (.func 44) [] [.p n 0 0, .p k 0 0]] (.tup [.v (.s x), .v (T vs' sd' j), .v (E 0)]) []:=by
 have h2:=fun nm=>mk4_ok 0 nm h
 have h3:=fun nm=>mk5_ok 0 1 nm (by decide) (kd:=kd) hg
 rw[hd]at h3;refine EvA.w mixed Tryz.call35 Tryz.func35 rfl (tyC.1 _ _ _ (by cbv)) (tyC.2 _ _ (by cbv)) (obs:=[oS ord,oK kd]) (args:=[.v (T vs sd i), .fn (.func 41) [] [.p 0 0 0], .fn (.func 44) [] [.p 0 0 0, .p 1 0 0]]) (fs:=[none,none]) (j:=none) (nw:=none) (v:= .tup [.v (.s x), .v (T vs' sd' j), .v (E 0)]) (ns:=[n,k]) (obsA:=[oS ord,oK kd]) rfl ?_ (by simp) (by simp[hne]) rfl (by simp[mapO,AObj.ren,AV.ren,AV.ren.renL]) (by simp[mapO,AV.ren,AV.ren.renL,ixOf,hne,Ne.symm hne]) (by simp[AV.ren,AV.ren.renL]) (by simp[upsOf,outs,AObj.ren,AV.ren,AV.ren.renL])
 simp only[go_sem,seval];repeat' first|simp only[go_sem,seval,true_or,or_true,false_or,or_false,Option.some.injEq,RetA,resLA,outV,outC,outO,viewC,hfV,foV,finH,finN,mkResA,mapO_outC_bcells,AV.ren,AV.ren.renL,renL_bcells]|(refine CR_eff (h2 _) (by simp[hget]) ?_)|(refine CR_eff (h3 _) (by simp[hget]) ?_)|(refine loop_unroll' ?_)|refine sB ?_|(first|apply pX|apply bX)<;>intro hc|refine⟨oD,?_⟩|exact oD|fail
end Go.Proofs.YtmledjfbgjnknaaGreatDoor
namespace Go.Proofs.YtmledjfbgjnknaaGreatDoor
open Go Go.Dom Go.Num
set_option maxRecDepth 100000
set_option maxHeartbeats 16000000
def P0:Par:=⟨[2],[100],[47],[23],[4],[9],[77],[],[4],[9],[20],[2],[30],[3],[20],[15],[15]⟩
def bank:Bytes:=[98,97,110,107]
def vs0:List Bytes:=[[2],[3],[2],[7],[5],[]]
def K0:Key:=⟨bank,[77],[],[],[4],[[],[]],[],[]⟩
def K1:Key:=⟨bank,[77],[],[64],[4],[[23],[1]],[16],[60]⟩
abbrev row2:AObj:=⟨0,[.v (.s []), .v (.s [])],false,none⟩
theorem basesO_ok (n nm:Nat) (a b c d e f g:Bytes):EvA Tryz.prog 43 nm [(n,row2)] [.agg [.v (.s a), .v (.s b), .v (.s c), .v (.s d), .v (.s e), .rs n 0 0 2 1, .v (.s f), .v (.s g)]] (.fn (.func 99) [] [.p nm 0 0]) [(nm,some ⟨0,[.v (.s a), .v (.s b), .v (.s c), .v (.s d), .v (.s e), .rs n 0 0 2 1, .v (.s f), .v (.s g)],false,none⟩)]:=by
 refine EvA.w mixed Tryz.call43 Tryz.func43 rfl (tyC.1 _ _ _ (by cbv)) (tyC.2 _ _ (by cbv)) (obs:=[row2]) (args:=[.agg [.v (.s a), .v (.s b), .v (.s c), .v (.s d), .v (.s e), .rs 0 0 0 2 1, .v (.s f), .v (.s g)]]) (fs:=[none]) (j:=some 1000) (nw:=some ⟨0,[.v (.s a), .v (.s b), .v (.s c), .v (.s d), .v (.s e), .rs 0 0 0 2 1, .v (.s f), .v (.s g)],false,none⟩) (v:= .fn (.func 99) [] [.p 1 0 0]) (ns:=[n]) (obsA:=[row2]) rfl ?_ (by simp) (by simp) rfl (by simp[mapO,AObj.ren,AV.ren,AV.ren.renL]) (by simp[mapO,AV.ren,AV.ren.renL,ixOf]) (by simp[AV.ren,AV.ren.renL,bkOf]) (by simp[upsOf,outs,AObj.ren,AV.ren,AV.ren.renL,bkOf])
 simp only[go_sem,seval];repeat' first|simp only[go_sem,seval,true_or,or_true,false_or,or_false,Option.some.injEq,RetA,resLA,outV,outC,outO,viewC,hfV,foV,finH,finN,mkResA,mapO_outC_bcells,AV.ren,AV.ren.renL,renL_bcells]|refine sB ?_|(first|apply pX|apply bX)<;>intro hc|refine⟨oD,?_⟩|exact oD|fail
 all_goals skip
theorem P0_ok:EvP Tryz.prog 32 [P0.pv] (E 0):=by
 have h:=parGood P0 (by decide) (by unfold Par.short;decide)
 rwa[show parE P0=0 by decide+kernel]at h
theorem sq0_ok:EvP Tryz.prog 37 [G [77] [],T vs0 [] 0] (.tup [.s [4],T vs0 [] 1,E 0]):=Square_ok (m:=[77]) (by decide) (vs:=vs0) [] (i:=0) (by decide) (by decide) (by decide) (by decide+kernel)
theorem gen4_ok:EvP Tryz.prog 39 [G [77] [],G [7] [11], .s [4]] (.tup [.b true,E 0]):=by
 have h:=IsGenerator_ok (m:=[77]) (by decide) [] [7] [11] [4]
 rwa[show elE [77] [] [7] [11] [4]=0 by decide+kernel,show genB [7] [11] [4]=true by decide+kernel]at h
theorem ord_ok:EvP Tryz.prog 40 [G [7] [11]] (.tup [.s [15],E 0]):=Order_ok (p:=[7]) (q:=[11]) (by decide) (by decide) (by decide) (by decide) (by decide) (by decide) (by decide+kernel)
theorem below_ok (i:Nat) (x:Bytes) (hi:i<6) (hx:vs0.getD i []=x) (hlt:num x<15):EvP Tryz.prog 42 [T vs0 [] (i:Nat), .s [15]] (.tup [.s x,T vs0 [] (i+1:Nat),E 0]):=by
 have h:=Below_ok (vs:=vs0) [] (i:=i) (n:=[15]) (by decide) (by decide) (by decide) hi (by decide)
 unfold drawR at h;rw[hx,if_neg (by show¬15≤num x;omega)]at h
 exact h
theorem gcd_ok (x d:Bytes) (hx:validN x=true) (hl:num x<100) (hd:Nat.gcd (num x) 15=num d) (vd:validN d=true):EvP Tryz.prog 45 [.s x, .s [15]] (.tup [.s d,E 0]):=by
 have h:=GcdN (a:=num x) (b:=15) (by omega) (by decide)
 rw[N_of hx,hd,N_of vd]at h;exact h
theorem exp_ok (e y:Bytes) (he:validN e=true) (h:4^num e%77=num y) (hy:validN y=true):EvP Tryz.prog 47 [G [77] [], .s [4], .agg [.b false, .s e]] (.tup [.s y,E 0]):=by
 have g:=Exp1_ok (m:=[77]) (x:=[4]) (by decide) (by decide+kernel) he
 rw[show num ([4]:Bytes)^num e%num ([77]:Bytes)=num y from h,N_of hy]at g
 exact g
theorem Make_ok:EvP Tryz.prog 15 [P0.pv, .s bank,G [77] [],G [7] [11],E 0,T vs0 [] 0] (.tup [K1.pv, .sl [.s [3], .s [2], .s [7], .s [5], .s []],T vs0 [] 6,E 0]):=by
 have hP:=P0_ok;have hN:EvP Tryz.prog 33 [.s bank] (.b true):=by
  have h:=isName_ok bank (by decide)
  rwa[show nameB bank=true by decide+kernel]at h
 have hR:EvP Tryz.prog 34 [G [77] [],G [7] [11]] (E 0):=by
  have h:=rCheck_ok [77] [] [7] [11]
  rwa[show rCheckE [77] [] [7] [11]=0 by decide+kernel]at h
 have hU:=fun n k nm hne=>until1_ok n k nm hne sq0_ok gen4_ok
 have hO:=ord_ok;have b1:=below_ok 1 [3] (by decide) rfl (by decide)
 have b2:=below_ok 2 [2] (by decide) rfl (by decide)
 have b3:=below_ok 3 [7] (by decide) rfl (by decide)
 have b4:=below_ok 4 [5] (by decide) rfl (by decide)
 have b5:=below_ok 5 [] (by decide) rfl (by decide)
 have u1:=fun n k nm hne=>until2_ok n k nm hne (kd:=0) b1 (gcd_ok [3] [3] (by decide) (by decide) (by decide) (by decide)) rfl
 have u2:=fun n k nm hne=>until2_ok n k nm hne (kd:=1) b2 (gcd_ok [2] [1] (by decide) (by decide) (by decide) (by decide)) rfl
 have u3:=fun n k nm hne=>until2_ok n k nm hne (kd:=1) b3 (gcd_ok [7] [1] (by decide) (by decide) (by decide) (by decide)) rfl
 have u4:=fun n k nm hne=>until2_ok n k nm hne (kd:=0) b4 (gcd_ok [5] [5] (by decide) (by decide) (by decide) (by decide)) rfl
 have u5:=fun n k nm hne=>until2_ok n k nm hne (kd:=0) b5 (gcd_ok [] [15] (by decide) (by decide) (by decide) (by decide)) rfl
 have f1:=From_ok (a:=[3]) (by decide)
 have f2:=From_ok (a:=[2]) (by decide)
 have f3:=From_ok (a:=[7]) (by decide)
 have f4:=From_ok (a:=[5]) (by decide)
 have f5:=From_ok (a:=[]) (by decide)
 have e1:=exp_ok [3] [64] (by decide) (by decide) (by decide)
 have e2:=exp_ok [2] [16] (by decide) (by decide) (by decide)
 have e3:=exp_ok [7] [60] (by decide) (by decide) (by decide)
 have e4:=exp_ok [5] [23] (by decide) (by decide) (by decide)
 have e5:=exp_ok [] [1] (by decide) (by decide) (by decide)
 have hit:=bases_it K0 (by decide)
 have hbl:=bases_len K0;have hbo:=fun n nm=>basesO_ok n nm bank [77] [] [] [4] [] []
 have hK:K0.pv= .agg [.s bank, .s [77], .s [], .s [], .s [4], .sl [.s [], .s []], .s [], .s []]:=rfl;have hB:K0.bases=[bas 2 [4],bas 0 [],bas 1 [],bas 1 [],bas 0 [],bas 0 []]:=rfl;rw[hK,hB]at hit;rw[hB]at hbl;simp only[show((1:Nat):Int)=1 from rfl,show((1+1:Nat):Int)=2 from rfl,show((2:Nat):Int)=2 from rfl,show((2+1:Nat):Int)=3 from rfl,show((3:Nat):Int)=3 from rfl,show((3+1:Nat):Int)=4 from rfl,show((4:Nat):Int)=4 from rfl,show((4+1:Nat):Int)=5 from rfl,show((5:Nat):Int)=5 from rfl,show((5+1:Nat):Int)=6 from rfl]at u1 u2 u3 u4 u5
 unfold P0 Par.pv at*;simp only at hP;refine eW Tryz.call15 Tryz.func15 ?_;repeat' first|simp only[go_sem,seval,List.getD_cons_zero,List.getD_cons_succ,bas]|refine cP hP ?_|refine cP hN ?_|refine cP hR ?_|(refine CR_eff (hU _ _ _ (by decide)) (by simp[hget]) ?_)|refine cP hO ?_|(refine CR_eff (hbo _ _) (by simp[hget]) ?_)|refine sB ?_|(first|apply pX|apply bX)<;>intro hc|refine⟨oD,?_⟩|exact oD|fail
 refine CW_rngO [1067,1049,1051] hit rfl (by simp[viewN,tget,hget,SX.ev]) (by simp) (by simp) hbl (by simp[bas,PV.flat]) ?_
 repeat' first|simp only[go_sem,seval,List.getD_cons_zero,List.getD_cons_succ,bas,List.map_cons,List.map_nil]|(refine rg_cons ?_)|(refine rg_nil ?_)|refine cP f1 ?_|refine cP f2 ?_|refine cP f3 ?_|refine cP f4 ?_|refine cP f5 ?_|refine cP e1 ?_|refine cP e2 ?_|refine cP e3 ?_|refine cP e4 ?_|refine cP e5 ?_|(refine CR_eff (u1 _ _ _ (by decide)) (by simp[hget]) ?_)|(refine CR_eff (u2 _ _ _ (by decide)) (by simp[hget]) ?_)|(refine CR_eff (u3 _ _ _ (by decide)) (by simp[hget]) ?_)|(refine CR_eff (u4 _ _ _ (by decide)) (by simp[hget]) ?_)|(refine CR_eff (u5 _ _ _ (by decide)) (by simp[hget]) ?_)|refine sB ?_|(first|apply pX|apply bX)<;>intro hc|refine⟨oD,?_⟩|exact oD|fail
 rfl
end Go.Proofs.YtmledjfbgjnknaaGreatDoor
