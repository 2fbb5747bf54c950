/-
  Part of the proof, part 36. Own work.
-/
import Derived.WideLaws
import Derived.Tactics
import Derived.Tactics2
import Derived.Test.YtmobkhegihemeaaGreatDoorM35
set_option linter.all false
namespace Go.Proofs.YtmobkhegihemeaaGreatDoor
open Go Go.Dom
set_option maxRecDepth 100000
set_option maxHeartbeats 16000000
theorem ipvRow:RowOK ipv 2:=⟨fun _=>rfl,fun x y hy=>by obtain⟨n,a⟩:=x;simp[ipv,PV.cells]at hy;rcases hy with rfl|rfl<;>rfl,fun h=>by omega,fun _ x=>rfl⟩
theorem CloneN0:EvP Tryz.prog 57 [.sl []] (.sl []):=by
 refine eW Tryz.call57 Tryz.func57 ?_;repeat' first|simp only[go_sem,seval]|refine sB ?_|(first|apply pX|apply bX)<;>intro hc|refine⟨oD,?_⟩|exact oD|fail
theorem CloneI_ok {l:List (Bool×Bytes)} (h0:l≠[]) (hl:l.length<1000000):EvP Tryz.prog 295 [.sl (l.map ipv)] (.sl (l.map ipv)):=by
 obtain⟨x,r,rfl⟩: ∃x r,l=x::r:=by cases l with
  |nil=>exact absurd rfl h0
  |cons a b=>exact⟨a,b,rfl⟩
 rw[List.map_cons];have k1:(ipv x::r.map ipv)=(x::r).map ipv:=rfl;have k0:(r.map ipv).length=r.length:=List.length_map ..;refine eW Tryz.call295 Tryz.func295 ?_;repeat' first|simp only[go_sem,seval,k0]|refine sB ?_|(first|apply pX|apply bX)<;>intro hc|refine⟨oD,?_⟩|exact oD|fail
 have hrow:List.map AV.v ((ipv x).cells++List.flatMap PV.cells (List.map ipv r))=rowF ipv (x::r):=by
  rw[rowF,List.flatMap_cons,List.flatMap_map]
 have hL:((ipv x).cells++List.flatMap PV.cells (List.map ipv r)).length=(r.length+1)*2:=by
  have:=rowF_len ipvRow (x::r);rw[←hrow,List.length_map]at this;exact this
 have q1:List.take ((r.length+1)*2) (rowF ipv (x::r))=rowF ipv (x::r):=rowF_take ipvRow (x::r);have q2:=rowF_all ipvRow (x::r);have q3:chunk 2 (r.length+1) ((x::r).flatMap fun x=>(ipv x).cells)=(x::r).map ipv:=rowF_chunk ipvRow (x::r)
 have q4: ∀y∈rowF ipv (x::r),y.one=true:=fun y hy=>List.all_eq_true.1 q2 y hy
 rw[hrow];refine⟨⟨⟨ipvRow.len x,fun y hy=>by obtain⟨z,-,rfl⟩:=List.mem_map.1 hy;exact ipvRow.len z⟩,q4,by simp at hl;omega,by simp at hl;omega⟩,?_⟩
 simp only[hL,q1,q2,q3,rowF_mapO,Nat.le_refl,and_self,if_true,Option.map_some];exact⟨trivial,rfl⟩
def X0 (c sl:Bytes) (s:Stm):PV:= .agg [.s c, .s sl, .sl (s.groups.map gpv), .sl (s.vars.map vpv), .sl (s.eqs.map Eqn.pv), .sl [], .sl [], .s []]
def formE (c:Bytes) (nv:Nat) (ch:Bytes) (rs:List (Bool×Bytes)) (gs:List Bytes) (ls:List (List (Bool×Bytes))):Int:=
 if !(validN ch&&rs.all izok&&ls.all (fun l=>l.all izok)&&gs.all validN)then 3 else if rs.length≠nv∨gs≠[]∨ls≠[]then 6 else if num c≤num ch then 2 else 0
def spv (ch:Bytes) (rs:List (Bool×Bytes)) (gs:List Bytes) (ls:List (List (Bool×Bytes))):PV:= .agg [.s ch, .sl (rs.map ipv), .sl (gs.map .s), .sl (ls.map lpv)]
theorem form_ok {c sl:Bytes} (vc:validN c=true) (s:Stm) (ch:Bytes) (rs:List (Bool×Bytes)) (gs:List Bytes) (ls:List (List (Bool×Bytes))) (h1:rs.length<1000000) (h2:gs.length≤1000) (h3:ls.length≤1000) (h4: ∀l∈ls,l.length<4611686018427387904):EvP Tryz.prog 292 [X0 c sl s,spv ch rs gs ls] (E (formE c s.vars.length ch rs gs ls)):=by
 have v1:=natValid ch;have v2:=form2_ok rs (by omega)
 have v3:=ContainsFuncL_ok ls 345 [cap1] (fun l=> !l.all izok) (by omega) fun l hl=>form2_ok l (h4 l hl)
 rw[any_not]at v3;have v4:=ContainsFuncNN_ok gs _ _ (by omega) form3_ok
 rw[any_not]at v4;have v5:=CFN0 347 [.pt (X0 c sl s) 0];obtain⟨gq,vs,es⟩:=s;unfold lpv at v2;simp only[X0,spv,formE]at v5⊢;have l1:(rs.map ipv).length=rs.length:=List.length_map ..;have l2:(vs.map vpv).length=vs.length:=List.length_map ..;have l3:(gs.map PV.s).length=gs.length:=List.length_map ..;have l4:(ls.map lpv).length=ls.length:=List.length_map ..
 by_cases hok:(validN ch&&rs.all izok&&ls.all (fun l=>l.all izok)&&gs.all validN)=true
 ·rw[hok];simp only[Bool.and_eq_true]at hok;obtain⟨⟨⟨o1,o2⟩,o3⟩,o4⟩:=hok;rw[o1]at v1;rw[o2]at v2;rw[o3]at v3;rw[o4]at v4
  by_cases hm:rs.length≠vs.length∨gs≠[]∨ls≠[]
  ·simp only[Bool.not_true,Bool.false_eq_true,if_false,if_pos hm];have hm':rs.length≠vs.length∨(rs.length=vs.length∧gs.length≠0)∨(rs.length=vs.length∧gs.length=0∧ls.length≠0):=by
    rcases hm with h|h|h
    ·exact .inl h
    ·have:gs.length≠0:=fun h0=>h (List.length_eq_zero_iff.1 h0)
     omega
    ·have:ls.length≠0:=fun h0=>h (List.length_eq_zero_iff.1 h0)
     omega
   clear hm v5 o2 o3 o4 h4;rcases hm' with h|⟨h,h'⟩|⟨h,h',h''⟩
   all_goals (
   refine eW Tryz.call292 Tryz.func292 ?_;repeat' first|simp only[go_sem,seval,viewN,l1,l2,l3,l4]|refine cP v1 ?_|refine cV v2 ?_|refine cV v3 ?_|refine cP v4 ?_|refine sB ?_|(first|apply pX|apply bX)<;>intro hc|refine⟨oD,?_⟩|exact oD|fail
   try trivial)
   all_goals fail "a"
  ·simp only[Bool.not_true,Bool.false_eq_true,if_false,if_neg hm];have hm':rs.length=vs.length∧gs=[]∧ls=[]:=by
    refine⟨Decidable.byContradiction fun h=>hm (.inl h),Decidable.byContradiction fun h=>hm (.inr (.inl h)),Decidable.byContradiction fun h=>hm (.inr (.inr h))⟩
   obtain⟨e1,e2,e3⟩:=hm';subst e2;subst e3;have cm:=cmpVV o1 vc;simp only[List.map_nil]at v3 v4;clear hm h4
   by_cases hge:num c≤num ch
   ·rw[if_pos hge];have h7: ∀ _:True,(0:Int)≤cmpN (num ch) (num c):=fun _=>cmpN_ge.2 hge
    have h5: ∀ _:True,decide (cmpN (num ch) (num c)≥0)=true:=fun _=>decide_eq_true (h7 trivial)
    generalize cmpN (num ch) (num c)=z at*;refine eW Tryz.call292 Tryz.func292 ?_;repeat' first|simp only[go_sem,seval,viewN,l1,l2,h5 trivial]|refine cP v1 ?_|refine cV v2 ?_|refine cV v3 ?_|refine cP v4 ?_|refine cP cm ?_|(refine loop_unroll' ?_)|refine sB ?_|(first|apply pX|apply bX)<;>intro hc|refine⟨oD,?_⟩|exact oD|fail
   ·rw[if_neg hge];have h7: ∀ _:True,¬(0:Int)≤cmpN (num ch) (num c):=fun _ h=>hge (cmpN_ge.1 h)
    have h5: ∀ _:True,decide (cmpN (num ch) (num c)≥0)=false:=fun _=>decide_eq_false (h7 trivial)
    generalize cmpN (num ch) (num c)=z at*;refine eW Tryz.call292 Tryz.func292 ?_;repeat' first|simp only[go_sem,seval,viewN,l1,l2,h5 trivial]|refine cP v1 ?_|refine cV v2 ?_|refine cV v3 ?_|refine cP v4 ?_|refine cP cm ?_|refine cV v5 ?_|(refine loop_unroll' ?_)|refine sB ?_|(first|apply pX|apply bX)<;>intro hc|refine⟨oD,?_⟩|exact oD|fail
 ·have hf:(validN ch&&rs.all izok&&ls.all (fun l=>l.all izok)&&gs.all validN)=false:=by simpa using hok
  rw[hf];simp only[Bool.not_false,if_true];clear hok v5 h4;generalize validN ch=b1 at*;generalize rs.all izok=b2 at*;generalize (ls.all fun l=>l.all izok)=b3 at*
  generalize gs.all validN=b4 at*;cases b1
  ·refine eW Tryz.call292 Tryz.func292 ?_;repeat' first|simp only[go_sem,seval,viewN,l1,l2,l3,l4]|refine cP v1 ?_|refine cV v2 ?_|refine cV v3 ?_|refine cP v4 ?_|refine sB ?_|(first|apply pX|apply bX)<;>intro hc|refine⟨oD,?_⟩|exact oD|fail
  ·cases b2
   ·refine eW Tryz.call292 Tryz.func292 ?_;repeat' first|simp only[go_sem,seval,viewN,l1,l2,l3,l4]|refine cP v1 ?_|refine cV v2 ?_|refine cV v3 ?_|refine cP v4 ?_|refine sB ?_|(first|apply pX|apply bX)<;>intro hc|refine⟨oD,?_⟩|exact oD|fail
   ·cases b3
    ·refine eW Tryz.call292 Tryz.func292 ?_;repeat' first|simp only[go_sem,seval,viewN,l1,l2,l3,l4]|refine cP v1 ?_|refine cV v2 ?_|refine cV v3 ?_|refine cP v4 ?_|refine sB ?_|(first|apply pX|apply bX)<;>intro hc|refine⟨oD,?_⟩|exact oD|fail
    ·cases b4
     ·refine eW Tryz.call292 Tryz.func292 ?_;repeat' first|simp only[go_sem,seval,viewN,l1,l2,l3,l4]|refine cP v1 ?_|refine cV v2 ?_|refine cV v3 ?_|refine cP v4 ?_|refine sB ?_|(first|apply pX|apply bX)<;>intro hc|refine⟨oD,?_⟩|exact oD|fail
     ·exact absurd hf (by simp)
end Go.Proofs.YtmobkhegihemeaaGreatDoor
namespace Go.Proofs.YtmobkhegihemeaaGreatDoor
open Go Go.Dom Go.Num
set_option maxRecDepth 100000
set_option maxHeartbeats 16000000
theorem CloneN_ok (l:List Bytes) (hl:l.length<1000000):EvP Tryz.prog 57 [.sl (l.map .s)] (.sl (l.map .s)):=by
 cases l with
 |nil=>exact CloneN0
 |cons x r=>
  rw[List.map_cons];have k1:(PV.s x::r.map .s)=(x::r).map .s:=rfl;have k0:(r.map PV.s).length=r.length:=List.length_map ..;refine eW Tryz.call57 Tryz.func57 ?_;repeat' first|simp only[go_sem,seval,k0]|refine sB ?_|(first|apply pX|apply bX)<;>intro hc|refine⟨oD,?_⟩|exact oD|fail
  obtain⟨-,r2,r3,-⟩:=rowS r;obtain⟨-,-,-,r4⟩:=rowS (x::r);rw[flat_S];refine⟨⟨fun x hx=>cells_S hx,fun x hx=>List.all_eq_true.1 r2 x hx,by simp at hl;omega,by simp at hl;omega⟩,?_⟩
  simp only[List.length_map,Nat.le_refl,r3,r2,mapO_view_v,and_self,if_true,Option.map_some];exact⟨trivial,congrArg PV.sl r4⟩
theorem runIdle (v1 v2 v3:Value) (w:World):CallsD Tryz.prog 265 #[v1,v2,v3] .returning w fun e u' w'=>e= .returned (.tuple #[])∧u'= .returning∧w'=w:=by
 refine callsD_of_wpS Tryz.func265 rfl fun c₀ cs hu=> ?_
 apply wpS_seq;apply wpS_region;simp[wpOpsS,go_sem,recoverD,hu,Tryz.ntmps265,Exit.thenS];apply wpS_seq;apply wpS_region;simp[wpOpsS,go_sem,Exit.thenS];refine wpS_cond (t:=false) (by simp[Act.eval,Array.replicate]) ?_
 simp only[Bool.false_eq_true,if_false];refine wpS_of_wp (wp_skip ?_);cases c₀;simp_all[bodyPostS,results,Tryz.results265]
noncomputable abbrev runB:Code:=Tryz.f187.body.getD .skip
theorem runD (a:Act) (w:World) (Q:Exit→Act→World→Prop) (hd:a.defers=[]) (hs:a.tmps.size=Tryz.f187.ntmps) (hQ: ∀a' d,a'.tmps.size=Tryz.f187.ntmps→(∀k,k≠56→a'.tmps.getD k undef=a.tmps.getD k undef)→a'.defers=[d]→Idle Tryz.prog d→Q .normal a' w):(cFst (rst 5 runB)).wp Tryz.prog Q a w:=by
 have hmf: ∀(fn:Fn) (first cap:Array Value) (w:World),(Instr.makeFunc fn first cap).run Tryz.prog w= .ok (.func fn first cap) w:=fun _ _ _ _=>rfl
 show(Code.region 6 _ false).wp Tryz.prog Q a w;apply wp_region;simp[wpOps,go_sem,hd];have h10:56<a.tmps.size:=by rw[hs,Tryz.ntmps187];decide
 refine .inl ?_;refine .inl ?_;rw[if_pos h10];refine hQ {tmps:=a.tmps.setIfInBounds 56 (.func (.func 265) #[] #[a.tmps[8]?.getD undef,a.tmps[9]?.getD undef,a.tmps[10]?.getD undef]),defers:=[⟨.fn (.func 265) #[a.tmps[8]?.getD undef,a.tmps[9]?.getD undef,a.tmps[10]?.getD undef], #[]⟩]} ⟨.fn (.func 265) #[a.tmps[8]?.getD undef,a.tmps[9]?.getD undef,a.tmps[10]?.getD undef], #[]⟩ ?_ ?_ ?_ ⟨.func 265, #[a.tmps[8]?.getD undef,a.tmps[9]?.getD undef,a.tmps[10]?.getD undef],265, #[a.tmps[8]?.getD undef,a.tmps[9]?.getD undef,a.tmps[10]?.getD undef],rfl,fun w=>⟨?_,runIdle _ _ _ w⟩⟩
 ·simp[hs]
 ·intro k hk;simp[Array.getElem?_setIfInBounds_ne (Ne.symm hk)]
 ·rfl
 ·simp[invoke,go_sem]
theorem runBody:Tryz.f187.body=some (seqs [cFst (rst 0 runB),cFst (rst 1 runB),cFst (rst 2 runB),cFst (rst 3 runB),cFst (rst 4 runB)] (.seq (cFst (rst 5 runB)) (rst 6 runB))):=by kernel_rfl
theorem preC {nt:Nat} {c:Code} {sc:SC} {r:List Code} {s s1 s2:AS} (h:CW Tryz.prog (fun e x=>e= .normal∧s1.Le x) sc [] s) (hr:Pre Tryz.prog nt r s1 s2) (hc:compI Tryz.prog tyL nt c=some sc:=by cbv) (hng:sc.norng=true:=by exact rfl):Pre Tryz.prog nt (c::r) s s2:= .cons (tyC.1 _ _ _ hc) hng (CW.start h) hr
theorem run0_ok (vs:List Bytes) (sd:Bytes) (a:Int) (hl:vs.length<1000000):EvP Tryz.prog 187 [C0, .sl [], .s [],T vs sd a] (.tup [.agg [.sl [], .sl [], .sl [], .sl []],T vs sd a,E 0]):=by
 have hc:=CloneN_ok vs hl;have ho:EvP Tryz.prog 201 [C0] (.s []):=by
  refine eW Tryz.call201 Tryz.func201 ?_;repeat' first|simp only[go_sem,seval]|(refine loop_unroll' ?_)|refine sB ?_|(first|apply pX|apply bX)<;>intro hc|refine⟨oD,?_⟩|exact oD|fail
 refine EvP.of_defer (sl:=56) (pre:=[cFst (rst 0 runB),cFst (rst 1 runB),cFst (rst 2 runB),cFst (rst 3 runB),cFst (rst 4 runB)]) (cD:=cFst (rst 5 runB)) (c2:=rst 6 runB) (s2:=⟨[(1, .v (.sl [])),(8, .p 1002 0 0),(9, .p 1003 0 0),(10, .p 1004 0 0),(11, .v (.sl [])),(12, .p 1014 0 0)],[(1002,⟨0,[.sn, .sn, .sn, .sn],false,some 172⟩),(1003,⟨0,[.sn, .v (.s []), .v (.i .i64 0)],false,some 40⟩),(1004,⟨0,[.v (.i .i64 0)],false,some 32⟩),(1014,⟨0,[.v (.sl []), .v (.sl []), .v (.s []), .v (.sl (vs.map .s)), .v (.s sd), .v (.i .i64 a), .v (.sl []), .rs 1020 0 0 0 1, .rs 1024 0 0 0 1, .rs 1028 0 0 0 1],false,none⟩),(1020,⟨0,[],false,none⟩),(1024,⟨0,[],false,none⟩),(1028,⟨0,[],false,none⟩)],1042⟩) mixed Tryz.call187 Tryz.func187 runBody rfl (tyC.1 _ _ _ (by cbv)) (tyC.2 _ _ (by cbv)) runD (Nat.le_of_ble_eq_true rfl) rfl (preC (s1:=⟨[(1, .v (.sl [])),(2, .v (.s [])),(4, .p 1000 0 0),(7, .p 1001 0 0),(8, .p 1002 0 0),(9, .p 1003 0 0),(10, .p 1004 0 0)],[(1000,⟨0,[.v (.sl []), .v (.sl [])],false,none⟩),(1001,⟨0,[.v (.sl (vs.map .s)), .v (.s sd), .v (.i .i64 a)],false,none⟩),(1002,⟨0,[.sn, .sn, .sn, .sn],false,some 172⟩),(1003,⟨0,[.sn, .v (.s []), .v (.i .i64 0)],false,some 40⟩),(1004,⟨0,[.v (.i .i64 0)],false,some 32⟩)],1005⟩) ?_ (preC (s1:=⟨[(1, .v (.sl [])),(2, .v (.s [])),(4, .p 1000 0 0),(7, .p 1001 0 0),(8, .p 1002 0 0),(9, .p 1003 0 0),(10, .p 1004 0 0),(11, .v (.sl []))],[(1000,⟨0,[.v (.sl []), .v (.sl [])],false,none⟩),(1001,⟨0,[.v (.sl (vs.map .s)), .v (.s sd), .v (.i .i64 a)],false,none⟩),(1002,⟨0,[.sn, .sn, .sn, .sn],false,some 172⟩),(1003,⟨0,[.sn, .v (.s []), .v (.i .i64 0)],false,some 40⟩),(1004,⟨0,[.v (.i .i64 0)],false,some 32⟩)],1009⟩) ?_ (preC (s1:=⟨[(1, .v (.sl [])),(2, .v (.s [])),(4, .p 1000 0 0),(7, .p 1001 0 0),(8, .p 1002 0 0),(9, .p 1003 0 0),(10, .p 1004 0 0),(11, .v (.sl [])),(12, .p 1014 0 0)],[(1000,⟨0,[.v (.sl []), .v (.sl [])],false,none⟩),(1001,⟨0,[.v (.sl (vs.map .s)), .v (.s sd), .v (.i .i64 a)],false,none⟩),(1002,⟨0,[.sn, .sn, .sn, .sn],false,some 172⟩),(1003,⟨0,[.sn, .v (.s []), .v (.i .i64 0)],false,some 40⟩),(1004,⟨0,[.v (.i .i64 0)],false,some 32⟩),(1014,⟨0,[.v (.sl []), .v (.sl []), .v (.s []), .v (.sl (vs.map .s)), .v (.s sd), .v (.i .i64 a), .sn, .sn, .sn, .sn],false,none⟩)],1016⟩) ?_ ?_))) (CW.start ?_)
 ·simp only[List.mapIdx_cons,List.mapIdx_nil];repeat' first|simp only[go_sem,seval]|refine sB ?_|(first|apply pX|apply bX)<;>intro hc|refine⟨oD,?_⟩|exact oD|fail
  exact lE
 ·repeat' first|simp only[go_sem,seval]|refine sB ?_|(first|apply pX|apply bX)<;>intro hc|refine⟨oD,?_⟩|exact oD|fail
  exact lE
 ·repeat' first|simp only[go_sem,seval]|refine cP ho ?_|refine sB ?_|(first|apply pX|apply bX)<;>intro hc|refine⟨oD,?_⟩|exact oD|fail
  exact lE
 ·refine preC (s1:=⟨[(1, .v (.sl [])),(8, .p 1002 0 0),(9, .p 1003 0 0),(10, .p 1004 0 0),(11, .v (.sl [])),(12, .p 1014 0 0)],[(1002,⟨0,[.sn, .sn, .sn, .sn],false,some 172⟩),(1003,⟨0,[.sn, .v (.s []), .v (.i .i64 0)],false,some 40⟩),(1004,⟨0,[.v (.i .i64 0)],false,some 32⟩),(1014,⟨0,[.v (.sl []), .v (.sl []), .v (.s []), .v (.sl (vs.map .s)), .v (.s sd), .v (.i .i64 a), .v (.sl []), .rs 1020 0 0 0 1, .rs 1024 0 0 0 1, .rs 1028 0 0 0 1],false,none⟩),(1020,⟨0,[],false,none⟩),(1024,⟨0,[],false,none⟩),(1028,⟨0,[],false,none⟩)],1033⟩) ?_ (preC ?_ (.nil _))
  ·repeat' first|simp only[go_sem,seval]|refine sB ?_|(first|apply pX|apply bX)<;>intro hc|refine⟨oD,?_⟩|exact oD|fail
   exact lE
  ·repeat' first|simp only[go_sem,seval]|refine sB ?_|(first|apply pX|apply bX)<;>intro hc|refine⟨oD,?_⟩|exact oD|fail
   exact lE
 ·repeat' first|simp only[go_sem,seval]|(refine loop_unroll' ?_)|refine cP hc ?_|refine sB ?_|(first|apply pX|apply bX)<;>intro hc|refine⟨oD,?_⟩|exact oD|fail
  all_goals rfl
theorem bnats_ok (l:List Bytes) (hl:l.length<1000000):EvP Tryz.prog 198 [.sl (l.map .s)] (.b (l.all validN)):=by
 have h1: ∀x,EvP Tryz.prog 283 [PV.s x] (.b (!validN x)):=fun x=>by
  have hv:=natValid x;generalize validN x=b at*;refine eW Tryz.call283 Tryz.func283 ?_;repeat' first|simp only[go_sem,seval]|refine cP hv ?_|refine sB ?_|(first|apply pX|apply bX)<;>intro hc|refine⟨oD,?_⟩|exact oD|fail
 have hc:=ContainsFuncNN_ok l _ _ (by omega) h1
 rw[any_not]at hc;generalize l.all validN=b at*;refine eW Tryz.call198 Tryz.func198 ?_;repeat' first|simp only[go_sem,seval,Bool.not_not]|refine cP hc ?_|refine sB ?_|(first|apply pX|apply bX)<;>intro hc|refine⟨oD,?_⟩|exact oD|fail
theorem goodTape_ok (vs:List Bytes) (sd:Bytes) (a:Int) (hl:vs.length<1000000):EvP Tryz.prog 185 [T vs sd a] (.b (goodT vs a)):=by
 have h:=bnats_ok vs hl;unfold goodT;rw[any_not,Bool.not_not];generalize vs.all validN=b at*;refine eW Tryz.call185 Tryz.func185 ?_;repeat' first|simp only[go_sem,seval]|refine cP h ?_|refine sB ?_|(first|apply pX|apply bX)<;>intro hc|refine⟨oD,?_⟩|exact oD|fail
 all_goals simp_all
 all_goals (intros;omega)
theorem lists0:EvP Tryz.prog 184 [.sl []] (.b true):=by
 have hi:EvP Tryz.prog 252 [.sl [], .fn (.func 262)] (E (-1)):=by
  refine eW Tryz.call252 Tryz.func252 ?_;repeat' first|simp only[go_sem,seval]|(refine loop_unroll' ?_)|refine sB ?_|(first|apply pX|apply bX)<;>intro hc|refine⟨oD,?_⟩|exact oD|fail
 have h:EvP Tryz.prog 173 [.sl [], .fn (.func 262)] (.b false):=by
  refine eW Tryz.call173 Tryz.func173 ?_;repeat' first|simp only[go_sem,seval]|refine cP hi ?_|refine sB ?_|(first|apply pX|apply bX)<;>intro hc|refine⟨oD,?_⟩|exact oD|fail
 refine eW Tryz.call184 Tryz.func184 ?_;repeat' first|simp only[go_sem,seval]|refine cP h ?_|refine sB ?_|(first|apply pX|apply bX)<;>intro hc|refine⟨oD,?_⟩|exact oD|fail
theorem truth0:EvP Tryz.prog 256 [F0, .sl []] (.sl []):=by
 refine eW Tryz.call256 Tryz.func256 ?_;repeat' first|simp only[go_sem,seval]|(refine loop_unroll' ?_)|refine sB ?_|(first|apply pX|apply bX)<;>intro hc|refine⟨oD,?_⟩|exact oD|fail
theorem Truth0:EvP Tryz.prog 180 [F0, .sl []] (.tup [.sl [],E 0]):=by
 refine eW Tryz.call180 Tryz.func180 ?_;repeat' first|simp only[go_sem,seval]|refine cP fCheck0 ?_|refine cP truth0 ?_|refine sB ?_|(first|apply pX|apply bX)<;>intro hc|refine⟨oD,?_⟩|exact oD|fail
theorem Honest0:EvP Tryz.prog 264 [F0, .sl []] (.tup [.sl [],E 0]):=by
 refine eW Tryz.call264 Tryz.func264 ?_;repeat' first|simp only[go_sem,seval]|refine cP Truth0 ?_|refine sB ?_|(first|apply pX|apply bX)<;>intro hc|refine⟨oD,?_⟩|exact oD|fail
theorem honest0:EvP Tryz.prog 186 [C0, .sl []] (.tup [.sl [],E 0]):=by
 refine eW Tryz.call186 Tryz.func186 ?_;repeat' first|simp only[go_sem,seval]|(refine loop_unroll' ?_)|(refine CR_give [1011] Honest0 rfl rfl rfl ?_)|refine sB ?_|(first|apply pX|apply bX)<;>intro hc|refine⟨oD,?_⟩|exact oD|fail
abbrev BS0:PV:= .agg [.sl [], .sl [], .sl [], .sl []]
theorem Commit0 {vs:List Bytes} {a:Int} (sd:Bytes) (hg:goodT vs a=true) (hl:vs.length<1000000):EvP Tryz.prog 117 [C0, .sl [],T vs sd a] (.tup [BS0,T vs sd a,E 0]):=by
 have h:=goodTape_ok vs sd a hl;rw[hg]at h;have hr:=run0_ok vs sd a hl;refine eW Tryz.call117 Tryz.func117 ?_;repeat' first|simp only[go_sem,seval]|refine cP bCheck0 ?_|refine cP lists0 ?_|refine cP h ?_|refine cP honest0 ?_|refine cP hr ?_|refine sB ?_|(first|apply pX|apply bX)<;>intro hc|refine⟨oD,?_⟩|exact oD|fail
 all_goals rfl
theorem wit1_ok (x:Bool×Bytes):EvP Tryz.prog 170 [ipv x] (.b (!izok x)):=by
 obtain⟨n,a⟩:=x;have hv:=iValid_ok n a;have e:izok (n,a)=(validN a&& !(n&&a==[])):=rfl;rw[e];generalize (validN a&& !(n&&a==[]))=b at*;simp only[ipv];refine eW Tryz.call170 Tryz.func170 ?_;repeat' first|simp only[go_sem,seval]|refine cP hv ?_|refine sB ?_|(first|apply pX|apply bX)<;>intro hc|refine⟨oD,?_⟩|exact oD|fail
theorem wit3_ok (b:Bytes):EvP Tryz.prog 175 [vpv b] (.s b):=by
 unfold vpv;refine eW Tryz.call175 Tryz.func175 ?_;repeat' first|simp only[go_sem,seval]|refine sB ?_|(first|apply pX|apply bX)<;>intro hc|refine⟨oD,?_⟩|exact oD|fail
theorem wit4_ok (m:Bytes):EvP Tryz.prog 176 [.sl [G m []], .fn (.func 177)] (E (-1)):=by
 have h:EvP Tryz.prog 177 [G m []] (.b false):=by
  refine eW Tryz.call177 Tryz.func177 ?_;repeat' first|simp only[go_sem,seval]|refine sB ?_|(first|apply pX|apply bX)<;>intro hc|refine⟨oD,?_⟩|exact oD|fail
  all_goals rfl
 refine eW Tryz.call176 Tryz.func176 ?_;repeat' first|simp only[go_sem,seval]|refine sB ?_|(first|apply pX|apply bX)<;>intro hc|refine⟨oD,?_⟩|exact oD|fail
 refine loop_unroll' ?_;repeat' first|simp only[go_sem,seval]|refine cP h ?_|refine sB ?_|(first|apply pX|apply bX)<;>intro hc|refine⟨oD,?_⟩|exact oD|fail
 refine loop_unroll' ?_;repeat' first|simp only[go_sem,seval]|refine sB ?_|(first|apply pX|apply bX)<;>intro hc|refine⟨oD,?_⟩|exact oD|fail
theorem ManyG {vs:List Bytes} (sd:Bytes) {a:Int} (hl:vs.length<1000000):EvP Tryz.prog 92 [T vs sd a, .s [1],E 0] (if goodT vs a then .tup [.sl [],T vs sd a,E 0]else .tup [.sl [],T [] [] 0,E 3]):=by
 have h1:=ready_ok vs sd a [1] (by omega)
 have e:readyE vs a [1]=if goodT vs a then 0 else 3:=by unfold readyE;cases goodT vs a<;>rfl
 rw[e]at h1;generalize goodT vs a=b at*;cases b
 ·refine eW Tryz.call92 Tryz.func92 ?_;repeat' first|simp only[go_sem,seval]|refine cP h1 ?_|refine sB ?_|(first|apply pX|apply bX)<;>intro hc|refine⟨oD,?_⟩|exact oD|fail
  all_goals rfl
 ·refine eW Tryz.call92 Tryz.func92 ?_;repeat' first|simp only[go_sem,seval]|refine cP h1 ?_|(refine loop_unroll' ?_)|refine sB ?_|(first|apply pX|apply bX)<;>intro hc|refine⟨oD,?_⟩|exact oD|fail
  all_goals rfl
end Go.Proofs.YtmobkhegihemeaaGreatDoor
namespace Go.Proofs.YtmobkhegihemeaaGreatDoor
open Go Go.Dom
set_option maxRecDepth 100000
set_option maxHeartbeats 16000000
abbrev PZ0:PV:= .agg [.sl [], .s [], .sl []]
abbrev B0:PV:= .agg [.sl [], .sl []]
theorem open_bad1 {c sl:Bytes} (hr:RuOK c sl) {s:Stm} {ch:Bytes} {rs:List (Bool×Bytes)} {gs:List Bytes} {ls:List (List (Bool×Bytes))} (h1:rs.length<1000000) (h2:gs.length≤1000) (h3:ls.length≤1000) (h4: ∀l∈ls,l.length<4611686018427387904) (hf:formE c s.vars.length ch rs gs ls≠0):
  EvP Tryz.prog 206 [X0 c sl s,spv ch rs gs ls] (.tup [PZ0,B0,E (formE c s.vars.length ch rs gs ls)]):=by
 have hfo:=form_ok (c:=c) (sl:=sl) hr.vc s ch rs gs ls h1 h2 h3 h4;have hb:(formE c s.vars.length ch rs gs ls==0)=false:=by simpa using hf
 generalize formE c s.vars.length ch rs gs ls=e at*;obtain⟨gq,vs,es⟩:=s;simp only[X0,spv]at hfo⊢;refine eW Tryz.call206 Tryz.func206 ?_;repeat' first|simp only[go_sem,seval,hb]|refine cP hfo ?_|refine sB ?_|(first|apply pX|apply bX)<;>intro hc|refine⟨oD,?_⟩|exact oD|fail
 all_goals skip
abbrev sDom:Bytes:=[100,111,109,105,110,111,32,112,114,111,111,102]
abbrev sCtx:Bytes:=[99,111,110,116,101,120,116]
abbrev sFor:Bytes:=[102,111,114,109,117,108,97]
abbrev sFst:Bytes:=[102,105,114,115,116]
def fsS (ctx:Bytes) (s:Stm) (fs:List Bytes):Bytes:=trNats (trAdd (bindS (trAdd (trNew sDom) sCtx ctx) s) sFor []) sFst fs
theorem accepts_ok {c sl:Bytes} (s:Stm) (x:PV) (n:Bytes):EvP Tryz.prog 207 [X0 c sl s,B0, .s n] (.b true):=by
 obtain⟨gq,vs,es⟩:=s;simp only[X0];refine eW Tryz.call207 Tryz.func207 ?_;repeat' first|simp only[go_sem,seval]|refine sB ?_|(first|apply pX|apply bX)<;>intro hc|refine⟨oD,?_⟩|exact oD|fail
noncomputable def fmsg (s:Stm) (ch:Bytes) (rs:List (Bool×Bytes)):List Bytes:=s.eqs.map fun q=>bts (msgQ s.groups ch rs q)
theorem formE_nil {c:Bytes} {nv:Nat} {ch:Bytes} {rs:List (Bool×Bytes)} {gs:List Bytes} {ls:List (List (Bool×Bytes))} (h:formE c nv ch rs gs ls=0):gs=[]∧ls=[]:=by
 unfold formE at h
 split at h
 ·exact absurd h (by decide)
 ·split at h
  ·exact absurd h (by decide)
  ·rename_i hm;exact⟨Decidable.byContradiction fun h=>hm (.inr (.inl h)),Decidable.byContradiction fun h=>hm (.inr (.inr h))⟩
end Go.Proofs.YtmobkhegihemeaaGreatDoor
namespace Go.Proofs.YtmobkhegihemeaaGreatDoor
open Go Go.Dom Go.Num
set_option maxRecDepth 100000
def signO (vs:List Bytes) (sd:Bytes) (i M:Nat):Except Int Int:=
 match drawO vs sd i (bts (2*M-1))with
 | .error e=> .error e
 | .ok x=> .ok ((num x:Int)-(M-1:Nat))
theorem trChal_lt (st:Bytes) {c:Bytes} (h:2≤num c):trChal st c<num c:=Nat.mod_lt _ (by omega)
theorem seek_ok {f:Nat→Bytes} {n:Nat} {x:Bytes}: ∀{k a:Nat},seek f n a k=some x→num x<n∧ ∃b,x=f b:=by
 intro k
 induction k with
 |zero=>intro a h;cases h
 |succ k ih=>
  intro a h;rw[seek]at h
  split at h
  ·rename_i hlt;injection h with h
   subst h;exact⟨hlt,a,rfl⟩
  ·exact ih h
theorem drawO_ok {vs:List Bytes} {sd:Bytes} {i:Nat} {n x:Bytes} (hv:vs.all validN=true) (hn:validN n=true) (hl:vs.length<1000000) (hi:i≤2147483647) (h:drawO vs sd i n= .ok x):validN x=true∧num x<num n∧i+1≤2147483647:=by
 unfold drawO at h
 split at h
 ·rename_i hiv
  split at h
  ·cases h
  ·rename_i hlt;injection h with h
   subst h;exact⟨List.all_eq_true.1 hv _ (getD_mem hiv),by omega,by omega⟩
 ·split at h
  ·cases h
  ·rename_i hs;have hi2:i≠2147483647:=fun e=>hs (.inr e)
   split at h
   ·rename_i y hy;injection h with h
    subst h;obtain⟨h1,b,hb⟩:=seek_ok hy;exact⟨by rw[hb];exact attB_valid sd i b (blenV_le hn),h1,by omega⟩
   ·cases h
theorem signO_ok {vs:List Bytes} {sd:Bytes} {i M:Nat} {z:Int} (hv:vs.all validN=true) (h1:1≤M) (h2:2*M<LIM) (hl:vs.length<1000000) (hi:i≤2147483647) (h:signO vs sd i M= .ok z):z.natAbs<M∧i+1≤2147483647:=by
 unfold signO at h
 split at h
 ·cases h
 ·rename_i x hx;obtain⟨-,h3,h4⟩:=drawO_ok hv (vB (by omega)) hl hi hx
  rw[num_bts]at h3;injection h with h
  subst h;exact⟨by omega,h4⟩
theorem drawO_err {vs:List Bytes} {sd:Bytes} {i:Nat} {n:Bytes} {e:Int} (h:drawO vs sd i n= .error e):e=2∨e=14:=by
 unfold drawO at h
 split at h
 ·split at h
  ·injection h with h;exact .inl h.symm
  ·cases h
 ·split at h
  ·injection h with h;exact .inr h.symm
  ·split at h
   ·cases h
   ·injection h with h;exact .inr h.symm
theorem signO_err {vs:List Bytes} {sd:Bytes} {i M:Nat} {e:Int} (h:signO vs sd i M= .error e):e=2∨e=14:=by
 unfold signO at h
 split at h
 ·rename_i e' he;injection h with h
  subst h;exact drawO_err he
 ·cases h
theorem ipz_nat {x:Bytes} (h:validN x=true):ipz (num x:Int)=(false,x):=by
 have e:bts (num x)=x:=by have:=N_of h;injection this
 simp[ipz,zs,zb,e]
end Go.Proofs.YtmobkhegihemeaaGreatDoor
namespace Go.Proofs.YtmobkhegihemeaaGreatDoor
open Go Go.Dom
set_option maxRecDepth 100000
set_option maxHeartbeats 16000000
theorem svalid_ok (l:List (Bool×Bytes)) (hl:l.length<1000000):EvP Tryz.prog 194 [.sl (l.map ipv)] (.b (l.all izok)):=by
 have l5:(l.map ipv).length=l.length:=List.length_map ..;refine eW Tryz.call194 Tryz.func194 ?_;repeat' first|simp only[go_sem,seval,l5]|refine sB ?_|(first|apply pX|apply bX)<;>intro hc|refine⟨oD,?_⟩|exact oD|fail
 refine loop_run (α:=Nat) (fun i=>l.length-i) (fun i=>⟨[(5, .v (.sl (l.map ipv))),(6,E' l.length),(7,E' i)],[],_⟩) (fun i=>i≤l.length∧(l.drop i).all izok=l.all izok) 0 (fun _=>Nat.le_refl _) ⟨Nat.zero_le _,rfl⟩ ?_ ?_
 ·exact lE
 ·rintro i ⟨hi,hf⟩ R hR;rw[←hf]
  by_cases hlt:i<l.length
  ·have e1:=getD_map ipv l d0I hlt;have hgo:=hR (i+1);rw[←hf]at hgo;rw[drop_getD d0I hlt,List.all_cons]at hgo⊢;obtain⟨x,hx⟩: ∃x,x=l.getD i d0I:=⟨_,rfl⟩;rw[←hx]at e1 hgo⊢;clear hx hf hR;obtain⟨n,a⟩:=x;have hv:=iValid_ok n a;have e:izok (n,a)=(validN a&& !(n&&a==[])):=rfl;rw[e]at hgo⊢;clear e;simp only[ipv]at e1;generalize (validN a&& !(n&&a==[]))=b at*;cases b
   ·repeat' first|simp only[go_sem,seval,l5,e1]|refine cP hv ?_|refine sB ?_|(first|apply pX|apply bX)<;>intro hc|refine⟨oD,?_⟩|exact oD|fail
    all_goals simp
   ·have hgo:=hgo ⟨by omega,by simp⟩ (by omega)
    repeat' first|simp only[go_sem,seval,l5,e1]|refine cP hv ?_|refine sB ?_|(first|apply pX|apply bX)<;>intro hc|refine⟨oD,?_⟩|exact oD|fail
    refine hgo _ ?_;exact lE
  ·obtain rfl:i=l.length:=by omega
   rw[List.drop_length];repeat' first|simp only[go_sem,seval,l5]|refine sB ?_|(first|apply pX|apply bX)<;>intro hc|refine⟨oD,?_⟩|exact oD|fail
   all_goals rfl
end Go.Proofs.YtmobkhegihemeaaGreatDoor
namespace Go.Proofs.YtmobkhegihemeaaGreatDoor
open Go Go.Dom Go.Num
set_option maxRecDepth 100000
set_option maxHeartbeats 16000000
def signP (vs:List Bytes) (sd:Bytes) (i:Nat):Except Int Int→PV
 | .ok z=> .tup [Z z,T vs sd (i+1:Nat),E 0]
 | .error e=> .tup [.agg [.b false, .s []],T [] [] 0,E e]
theorem Signed_ok {vs:List Bytes} {sd:Bytes} {i M:Nat} (hv:vs.all validN=true) (hi:i≤2147483647) (hl:vs.length<1000000) (hsd:sd.length<1000000) (h1:1≤M) (h2:3*M<LIM):EvP Tryz.prog 261 [T vs sd i,N M] (signP vs sd i (signO vs sd i M)):=by
 have hM:bts M≠[]:=by rw[ne_eq,bts_nil];omega
 have hN:validN (bts (2*M-1))=true:=vB (by omega)
 have hr:=ready_ok vs sd i (bts M) (by omega)
 rw[readyG hv (vB (by omega)) hM hi]at hr
 have ha:=addN (a:=M) (b:=M) (by omega)
 have hs:=subN (a:=M) (b:=1) (by omega) (by omega)
 have ho:=subN (a:=M+M) (b:=1) (by omega) (by omega)
 have hd:=drawG_ok (sd:=sd) hv hN (by rw[num_bts];omega) hi hl hsd
 rw[←one_eq]at hs ho;rw[show M+M-1=2*M-1 by omega]at ho
 unfold signO;generalize hD:drawO vs sd i (bts (2*M-1))=r at*
 cases r with
 |error e=>
  unfold drawP at hd;unfold signP;rcases drawO_err hD with rfl|rfl
  ·refine eW Tryz.call261 Tryz.func261 ?_;repeat' first|simp only[go_sem,seval]|refine cP hr ?_|refine cP ha ?_|refine cP hs ?_|refine cP ho ?_|refine cP hd ?_|refine sB ?_|(first|apply pX|apply bX)<;>intro hc|refine⟨oD,?_⟩|exact oD|fail
   all_goals rfl
  ·refine eW Tryz.call261 Tryz.func261 ?_;repeat' first|simp only[go_sem,seval]|refine cP hr ?_|refine cP ha ?_|refine cP hs ?_|refine cP ho ?_|refine cP hd ?_|refine sB ?_|(first|apply pX|apply bX)<;>intro hc|refine⟨oD,?_⟩|exact oD|fail
   all_goals rfl
 |ok x=>
  obtain⟨vx,hx,-⟩:=drawO_ok hv hN hl hi hD;rw[num_bts]at hx;have hz:=iSubL (x:=(num x:Int)) (y:=((M-1:Nat):Int)) (by omega)
  have e1:Z (num x:Int)= .agg [.b false, .s x]:=by rw[←ipv_ipz,ipz_nat vx];rfl
  have e2:Z ((M-1:Nat):Int)= .agg [.b false,N (M-1)]:=rfl;rw[e1,e2]at hz;unfold drawP at hd;unfold signP;simp only;refine eW Tryz.call261 Tryz.func261 ?_;repeat' first|simp only[go_sem,seval]|refine cP hr ?_|refine cP ha ?_|refine cP hs ?_|refine cP ho ?_|refine cP hd ?_|refine cP hz ?_|refine sB ?_|(first|apply pX|apply bX)<;>intro hc|refine⟨oD,?_⟩|exact oD|fail
  all_goals rfl
theorem zRow:RowOK Zp 2:=⟨fun _=>rfl,fun x y hy=>by simp[Zp,ipv,ipz,PV.cells]at hy;rcases hy with rfl|rfl<;>rfl,fun h=>by omega,fun _ x=>rfl⟩
def maskP (vs:List Bytes) (sd:Bytes) (j:Nat):Except Int (List Int)→PV
 | .ok ms=> .tup [.sl (ms.map Zp),T vs sd j,E 0]
 | .error e=> .tup [.sl [],T [] [] 0,E e]
theorem limM_ok {c sl b:Bytes} (hr:RuOK c sl) (vb:validN b=true) (hb:b≠[]) (lb:b.length≤16):1≤limM c sl b∧3*limM c sl b<LIM:=by
 have h1:=hr.c2;have h2:=hr.s2;have h3:=num_ne vb hb;unfold limM;refine⟨Nat.mul_pos (Nat.mul_pos (by omega) (by omega)) (by omega),?_⟩
 have g1:num sl<256^8:=Nat.lt_of_lt_of_le (num_lt sl) (Nat.pow_le_pow_right (by decide) hr.ls)
 have g2:num c<256^8:=Nat.lt_of_lt_of_le (num_lt c) (Nat.pow_le_pow_right (by decide) hr.lc)
 have g3:num b<256^16:=Nat.lt_of_lt_of_le (num_lt b) (Nat.pow_le_pow_right (by decide) lb)
 have g4:num sl*num c*num b≤256^8*256^8*256^16:=Nat.mul_le_mul (Nat.mul_le_mul (Nat.le_of_lt g1) (Nat.le_of_lt g2)) (Nat.le_of_lt g3);exact Nat.lt_of_le_of_lt (Nat.mul_le_mul_left 3 g4) (by unfold LIM;decide+kernel)
theorem zs_snoc (ms:List Int) (z:Int):rowF Zp (ms++[z])=rowF Zp ms++[.v (.b (zs z)), .v (.s (zb z))]:=by rw[rowF_snoc];rfl

def prvP (vs:List Bytes) (sd:Bytes):Except Int (Bytes×List Int×Nat)→PV
 | .ok (ch,rs,j)=> .tup [.agg [.s ch, .sl (rs.map Zp), .sl [], .sl []],T vs sd j,E 0]
 | .error e=> .tup [.agg [.s [], .sl [], .sl [], .sl []],T [] [] 0,E e]





end Go.Proofs.YtmobkhegihemeaaGreatDoor
namespace Go.Proofs.YtmobkhegihemeaaGreatDoor
open Go Go.Dom
set_option maxRecDepth 100000
set_option maxHeartbeats 16000000


end Go.Proofs.YtmobkhegihemeaaGreatDoor
namespace Go.Proofs.YtmobkhegihemeaaGreatDoor
open Go Go.Dom Go.Num
set_option maxRecDepth 100000
set_option maxHeartbeats 16000000

end Go.Proofs.YtmobkhegihemeaaGreatDoor
namespace Go.Proofs.YtmobkhegihemeaaGreatDoor
open Go Go.Dom
set_option maxRecDepth 100000
set_option maxHeartbeats 16000000
def keyT (k:Key):List Bytes:=k.z::k.u::k.h::k.r
structure KeyF (k:Key):Prop where
 o:k.o=[]
 gd:goodB k.m []=true
 s:rHas k.m [] k.s=true
 t: ∀x∈keyT k,rHas k.m [] x=true
 r:k.r.length≤18
end Go.Proofs.YtmobkhegihemeaaGreatDoor
namespace Go.Proofs.YtmobkhegihemeaaGreatDoor
open Go Go.Dom Go.Num
set_option maxRecDepth 100000
set_option maxHeartbeats 16000000

structure BdG (s:Stm):Prop where
 g: ∃m o,s.groups=[(m,o)]∧m.length≤1000∧o.length≤1000
 v0:s.vars≠[]
 nv:s.vars.length≤64
 v: ∀b∈s.vars,b.length≤1000
 ne:s.eqs.length≤64
 q: ∀q∈s.eqs,0≤q.grp∧q.grp<100∧q.tgt.length≤1000∧q.terms.length≤64∧ ∀t∈q.terms,0≤t.var∧t.var<100∧t.base.length≤1000∧t.abs.length≤1000
theorem bindTs_len {l:List Trm} {st:Bytes} (hs:st.length=32):(l.foldl bindT st).length=32:=by
 induction l generalizing st with
 |nil=>exact hs
 |cons t l ih=>exact ih (trInts_len _ _ _)
theorem bindEs_len {l:List Eqn} {st:Bytes} (hs:st.length=32):(l.foldl bindE st).length=32:=by
 induction l generalizing st with
 |nil=>exact hs
 |cons q l ih=>exact ih (bindTs_len (trNats_len _ _ _))
theorem BindG {st:Bytes} (hst:st.length≤1000) {s:Stm} (hs:BdG s):EvP Tryz.prog 190 [.s st,s.pv] (.s (bindS st s)):=by
 obtain⟨⟨m,o,hg,lm,lo⟩,v0,nv,hv,ne,hq⟩:=hs;obtain⟨gs,vs,es⟩:=s;simp only at hg v0 nv hv ne hq;subst hg;obtain⟨w0,wr,hw⟩: ∃a b,vs=a::b:=by cases vs with
  |nil=>exact absurd rfl v0
  |cons a b=>exact⟨a,b,rfl⟩
 have hvl:vs.length=wr.length+1:=by rw[hw];rfl
 have hpos: ∀ _:True,(0:Int)<(vs.length:Int):=fun _=>by omega
 have g0:(vs.map vpv).getD 0 .fn0= .agg [.s w0]:=by rw[hw];rfl
 simp only[bindS,List.flatMap_cons,List.flatMap_nil,List.append_nil,Stm.pv,List.map_cons,List.map_nil,gpv];have n1:=tNats_ok st sGrps [m,o] (by omega) (by decide) (by simp) (by simp) (by intro s hs;simp at hs;rcases hs with rfl|rfl<;>omega)
 simp only[List.map_cons,List.map_nil]at n1;have n2:=tNats_ok (trNats st sGrps [m,o]) sBnds vs (by rw[trNats_len];decide) (by decide) v0 (by omega) (fun x hx=>by have:=hv x hx;omega)
 have l2:=trNats_len (trNats st sGrps [m,o]) sBnds vs;refine eW Tryz.call190 Tryz.func190 ?_;repeat' first|simp only[go_sem,seval]|(refine loop_unroll' ?_)|refine sB ?_|(first|apply pX|apply bX)<;>intro hc|refine⟨oD,?_⟩|exact oD|fail
 repeat' first|simp only[go_sem,seval,g0,hpos trivial]|refine sB ?_|(first|apply pX|apply bX)<;>intro hc|refine⟨oD,?_⟩|exact oD|fail
 have hro:[AV.v (PV.s w0)]=rowF PV.s (vs.take 1):=by rw[hw];rfl
 rw[hro];refine loop_run (α:=Nat) (fun j=>vs.length-j) (fun j=>⟨[(0, .v (.s st)),(3, .p 1000 0 0),(5, .rs 1019 0 0 2 1),(6, .rs 1037 j 0 (1+j) 1),(31, .v (.sl (vs.map vpv))),(32,E' vs.length),(33,E' (j+1))],[(1000,⟨0,[.v (.sl [.agg [.s m, .s o]]), .v (.sl (vs.map vpv)), .v (.sl (es.map Eqn.pv))],false,none⟩),(1019,⟨0,[.v (.s m), .v (.s o)],true,some 22⟩),(1037,⟨j,rowF PV.s (vs.take (j+1)),true,some 22⟩)],1041⟩) (fun j=>j+1≤vs.length) 0 (fun _=>Nat.le_of_ble_eq_true rfl) (by omega) ?_ ?_
 ·(refine AS.Le.of (by first|decide|omega) ?_ ?_<;>simp[LeT,LeH,tget,hget,AV.bd,AV.bd.bdL,u8,bd_cellsOf,bcells_bd,icells_bd])
  all_goals exact fun c hc=>bd_row hc
 ·intro j hj R hR;have hlr:(vs.take (j+1)).length=1+j:=by rw[List.length_take];omega
  have q0:(rowF PV.s (vs.take (j+1))).length=1+j:=by rw[rowF_len RowOK.s,hlr,Nat.mul_one]
  have q1:List.take (1+j) (rowF PV.s (vs.take (j+1)))=rowF PV.s (vs.take (j+1)):=List.take_of_length_le (by omega)
  by_cases hjt:j+1<vs.length
  ·have e2:=getD_map vpv vs ([]:Bytes) hjt;have hgo:=hR (j+1) (by omega) (by omega)
   rw[take_succ_getD ([]:Bytes) hjt,rowF_snoc]at hgo;generalize vs.getD (j+1) []=y at e2 hgo;have e2:(vs.map vpv).getD (j+1) .fn0= .agg [.s y]:=e2;have e3: ∀ _:True,((j:Int)+1).toNat=j+1:=fun _=>by omega
   clear hR hlr n1 n2;repeat' first|simp only[go_sem,seval,q0,q1,e2,e3 trivial]|refine sB ?_|(first|apply pX|apply bX)<;>intro hc|refine⟨oD,?_⟩|exact oD|fail
   refine hgo _ ?_
   (refine AS.Le.of (by first|decide|omega) ?_ ?_<;>simp[LeT,LeH,tget,hget,AV.bd,AV.bd.bdL,u8,bd_cellsOf,bcells_bd,icells_bd])
   all_goals first|omega|exact⟨rfl,fun c hc=>by rcases hc with hc|⟨a,ha,rfl⟩;exact bd_row hc;rfl⟩|skip
  ·have hj2:j+1=vs.length:=by omega
   rw[hj2,List.take_length]at hlr q0 q1⊢;clear hR hpos g0 hro;repeat' first|simp only[go_sem,seval,q0,q1]|refine cV n1 ?_|(refine CR_vrow2 (l:=vs) (g:=PV.s) (ver:=j) (gr:=true) (el:=some 22) n2 RowOK.s rfl (by simp[hget]) hlr.symm ?_)|refine sB ?_|(first|apply pX|apply bX)<;>intro hc|refine⟨oD,?_⟩|exact oD|fail
   generalize trNats (trNats st sGrps [m,o]) sBnds vs=s0 at l2⊢;clear n1 n2;refine loop_run (α:=Nat) (fun i=>es.length-i) (fun i=>⟨[(0, .v (.s ((es.take i).foldl bindE s0))),(50, .v (.sl (es.map Eqn.pv))),(51,E' es.length),(52,E' i)],[],_⟩) (fun i=>i≤es.length) 0 (fun _=>Nat.le_refl _) (Nat.zero_le _) ?_ ?_
   ·(refine AS.Le.of (by first|decide|omega) ?_ ?_<;>simp[LeT,LeH,tget,hget,AV.bd,AV.bd.bdL,u8,bd_cellsOf,bcells_bd,icells_bd])
    all_goals rfl
   ·intro i hi R hR
    by_cases hit:i<es.length
    ·have e2:=getD_map Eqn.pv es d0Q hit;have hgo:=hR (i+1) (by omega) (by omega)
     rw[foldl_take bindE s0 d0Q hit]at hgo;obtain⟨g1,g2,g3,nt,ht⟩:=hq _ (mem_getD d0Q hit);have hX:=bindEs_len (l:=es.take i) l2;generalize (es.take i).foldl bindE s0=X at hgo hX⊢;generalize es.getD i d0Q=q at*;obtain⟨grp,tgt,ts⟩:=q;simp only at g1 g2 g3 nt ht;obtain⟨n,rfl⟩: ∃n:Nat,grp=(n:Int):=⟨grp.toNat,by omega⟩
     have e2:(es.map Eqn.pv).getD i .fn0= .agg [.i .i64 (n:Int), .s tgt, .sl (ts.map Trm.pv)]:=e2;simp only[bindE,Int.toNat_natCast]at hgo;have ln:=decN_len n;have l4:(ts.map Trm.pv).length=ts.length:=List.length_map ..;have c1:=Itoa_ok n (by omega)
     have c2:=tAdd_ok X sEqn (decN n) (by omega) (by decide) (by omega)
     have c3:=tNats_ok (trAdd X sEqn (decN n)) sTgt [tgt] (by rw[trAdd_len];decide) (by decide) (by simp) (by simp) (by simp;omega)
     have lS:=trNats_len (trAdd X sEqn (decN n)) sTgt [tgt];generalize trNats (trAdd X sEqn (decN n)) sTgt [tgt]=S0 at*;simp only[List.map_cons,List.map_nil]at c3;clear hR hq;repeat' first|simp only[go_sem,seval,e2,l4]|refine cP c1 ?_|refine cP c2 ?_|refine cP c3 ?_|refine sB ?_|(first|apply pX|apply bX)<;>intro hc|refine⟨oD,?_⟩|exact oD|fail
     refine loop_run (α:=Nat) (fun k=>ts.length-k) (fun k=>⟨[(0, .v (.s ((ts.take k).foldl bindT S0))),(50, .v (.sl (es.map Eqn.pv))),(51,E' es.length),(52,E' i),(67, .v (.sl (ts.map Trm.pv))),(68,E' ts.length),(69,E' k)],[],_⟩) (fun k=>k≤ts.length) 0 (fun _=>Nat.le_refl _) (Nat.zero_le _) ?_ ?_
     ·(refine AS.Le.of (by first|decide|omega) ?_ ?_<;>simp[LeT,LeH,tget,hget,AV.bd,AV.bd.bdL,u8,bd_cellsOf,bcells_bd,icells_bd])
      all_goals rfl
     ·clear c1 c2 c3 e2;intro k hk R' hR'
      by_cases hkt:k<ts.length
      ·have e3:=getD_map Trm.pv ts d0T hkt;have hgo':=hR' (k+1) (by omega) (by omega)
       rw[foldl_take bindT S0 d0T hkt]at hgo';obtain⟨v1,v2,lb,la⟩:=ht _ (mem_getD d0T hkt);have hY:=bindTs_len (l:=ts.take k) lS;generalize (ts.take k).foldl bindT S0=Y at hgo' hY⊢;generalize ts.getD k d0T=t at*;obtain⟨base,vr,ng,ab⟩:=t;simp only at v1 v2 lb la;obtain⟨v,rfl⟩: ∃v:Nat,vr=(v:Int):=⟨vr.toNat,by omega⟩
       have e3:(ts.map Trm.pv).getD k .fn0= .agg [.s base, .i .i64 (v:Int), .b ng, .s ab]:=e3;simp only[bindT,Int.toNat_natCast]at hgo';have lv:=decN_len v;have c4:=Itoa_ok v (by omega)
       have c5:=tAdd_ok Y sVar (decN v) (by omega) (by decide) (by omega)
       have c6:=tNats_ok (trAdd Y sVar (decN v)) sBase [base] (by rw[trAdd_len];decide) (by decide) (by simp) (by simp) (by simp;omega)
       have c7:=tInts_ok (trNats (trAdd Y sVar (decN v)) sBase [base]) sCoef ng ab (by rw[trNats_len];decide) (by decide) (by omega)
       simp only[List.map_cons,List.map_nil]at c6;clear hR' hgo;repeat' first|simp only[go_sem,seval,e3,l4]|refine cP c4 ?_|refine cP c5 ?_|refine cP c6 ?_|refine cP c7 ?_|refine sB ?_|(first|apply pX|apply bX)<;>intro hc|refine⟨oD,?_⟩|exact oD|fail
       refine hgo' _ ?_
       (refine AS.Le.of (by first|decide|omega) ?_ ?_<;>simp[LeT,LeH,tget,hget,AV.bd,AV.bd.bdL,u8,bd_cellsOf,bcells_bd,icells_bd])
       all_goals first|omega|skip
      ·have h:k=ts.length:=by omega
       rw[h,List.take_length];repeat' first|simp only[go_sem,seval,l4]|refine sB ?_|(first|apply pX|apply bX)<;>intro hc|refine⟨oD,?_⟩|exact oD|fail
       refine hgo _ ?_
       (refine AS.Le.of (by first|decide|omega) ?_ ?_<;>simp[LeT,LeH,tget,hget,AV.bd,AV.bd.bdL,u8,bd_cellsOf,bcells_bd,icells_bd])
       all_goals first|omega|skip
    ·have h:i=es.length:=by omega
     rw[h,List.take_length];repeat' first|simp only[go_sem,seval]|refine sB ?_|(first|apply pX|apply bX)<;>intro hc|refine⟨oD,?_⟩|exact oD|fail
theorem newSettingG {c sl:Bytes} {s:Stm} (hp:StP c sl s):EvP Tryz.prog 114 [.agg [.s c, .s sl],s.pv,C0] (.tup [X0 c sl s,E 0]):=by
 have hb:=sBoundsG hp;obtain⟨gs,vs,es⟩:=s;simp only[Stm.pv,X0]at hb⊢;refine eW Tryz.call114 Tryz.func114 ?_;repeat' first|simp only[go_sem,seval]|refine cP hb ?_|refine cP bCheck0 ?_|refine sB ?_|(first|apply pX|apply bX)<;>intro hc|refine⟨oD,?_⟩|exact oD|fail
theorem bindSG_len {st:Bytes} {s:Stm}:(bindS st s).length=32:=by
 unfold bindS;exact bindEs_len (trNats_len _ _ _)
theorem challengeG {c sl:Bytes} (hr:RuOK c sl) {s:Stm} (hb:BdG s) {ctx:Bytes} (hx:ctx.length≤100000) {fs:List Bytes} (f0:fs≠[]) (fn:fs.length≤900) (fl: ∀x∈fs,x.length≤100000):
  EvP Tryz.prog 118 [X0 c sl s, .s ctx, .sl (fs.map .s), .sl []] (.tup [N (trChal (fsS ctx s fs) c),E 0]):=by
 have c0:c≠[]:=by
  intro h;have:=hr.c2;rw[h]at this;exact absurd this (by decide)
 have n1:=tNew_ok sDom (by decide)
 have n2:=tAdd_ok (trNew sDom) sCtx ctx (by rw[trNew_len];decide) (by decide) hx
 have n3:=BindG (st:=trAdd (trNew sDom) sCtx ctx) (by rw[trAdd_len];decide) hb
 have n4:=tAdd_ok (bindS (trAdd (trNew sDom) sCtx ctx) s) sFor [] (by rw[bindSG_len];decide) (by decide) (by decide)
 have n5:=tNats_ok (trAdd (bindS (trAdd (trNew sDom) sCtx ctx) s) sFor []) sFst fs (by rw[trAdd_len];decide) (by decide) f0 fn fl
 have n6:=tChallenge_ok (fsS ctx s fs) c (by rw[fsS,trNats_len];decide) hr.vc c0 hr.lc
 have n5:EvP Tryz.prog 192 [.s (trAdd (bindS (trAdd (trNew sDom) sCtx ctx) s) sFor []), .s sFst, .sl (fs.map .s)] (.s (fsS ctx s fs)):=n5;generalize fsS ctx s fs=st5 at*;generalize bindS (trAdd (trNew sDom) sCtx ctx) s=st3 at*;obtain⟨gq,vs,es⟩:=s;simp only[X0,Stm.pv]at n3⊢;refine eW Tryz.call118 Tryz.func118 ?_;repeat' first|simp only[go_sem,seval]|refine cP n1 ?_|refine cP n2 ?_|refine cP n3 ?_|refine cP n4 ?_|refine cP n5 ?_|refine cP n6 ?_|refine cP fText0 ?_|(refine loop_unroll' ?_)|refine sB ?_|(first|apply pX|apply bX)<;>intro hc|refine⟨oD,?_⟩|exact oD|fail
end Go.Proofs.YtmobkhegihemeaaGreatDoor
