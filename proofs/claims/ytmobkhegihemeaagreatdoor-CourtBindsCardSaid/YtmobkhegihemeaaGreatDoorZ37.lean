/-
  Part of the proof, part Z37. Own work.
-/
import Derived.WideLaws
import Derived.Tactics
import Derived.Tactics2
import Derived.Test.YtmobkhegihemeaaGreatDoorZ36
set_option linter.all false
namespace Go.Proofs.YtmobkhegihemeaaGreatDoor
open Go Go.Dom
set_option maxRecDepth 100000
set_option maxHeartbeats 16000000
theorem iP:cU cH 2:=⟨fun _=>rfl,fun x y hy=>by obtain⟨n,a⟩:=x;simp[cH,PV.cells]at hy;rcases hy with rfl|rfl<;>rfl,fun h=>by omega,fun _ x=>rfl⟩
theorem AF:aA Tryz.prog 57 [.sl []] (.sl []):=by
 refine eW Tryz.call57 Tryz.func57 ?_;repeat' first|simp only[go_sem,seval]|refine sB ?_|(first|apply pX|apply bX)<;>intro hc|refine⟨oD,?_⟩|exact oD|fail
theorem Ck {l:List (Bool×Bytes)} (h0:l≠[]) (hl:l.length<1000000):aA Tryz.prog 295 [.sl (l.map cH)] (.sl (l.map cH)):=by
 obtain⟨x,r,rfl⟩: ∃x r,l=x::r:=by cases l with
  |nil=>exact absurd rfl h0
  |cons a b=>exact⟨a,b,rfl⟩
 rw[List.map_cons];have k1:(cH x::r.map cH)=(x::r).map cH:=rfl;have k0:(r.map cH).length=r.length:=List.length_map ..;refine eW Tryz.call295 Tryz.func295 ?_;repeat' first|simp only[go_sem,seval,k0]|refine sB ?_|(first|apply pX|apply bX)<;>intro hc|refine⟨oD,?_⟩|exact oD|fail
 have hrow:List.map AV.v ((cH x).cells++List.flatMap PV.cells (List.map cH r))=aV cH (x::r):=by
  rw[aV,List.flatMap_cons,List.flatMap_map]
 have hL:((cH x).cells++List.flatMap PV.cells (List.map cH r)).length=(r.length+1)*2:=by
  have:=cf iP (x::r);rw[←hrow,List.length_map]at this;exact this
 have q1:List.take ((r.length+1)*2) (aV cH (x::r))=aV cH (x::r):=cz iP (x::r);have q2:=dw iP (x::r);have q3:chunk 2 (r.length+1) ((x::r).flatMap fun x=>(cH x).cells)=(x::r).map cH:=cr iP (x::r)
 have q4: ∀y∈aV cH (x::r),y.one=true:=fun y hy=>List.all_eq_true.1 q2 y hy
 rw[hrow];refine⟨⟨⟨iP.len x,fun y hy=>by obtain⟨z,-,rfl⟩:=List.mem_map.1 hy;exact iP.len z⟩,q4,by simp at hl;omega,by simp at hl;omega⟩,?_⟩
 simp only[hL,q1,q2,q3,dr,Nat.le_refl,and_self,if_true,Option.map_some];exact⟨trivial,rfl⟩
def X0 (c sl:Bytes) (s:bT):PV:= .agg [.s c, .s sl, .sl (s.groups.map dY), .sl (s.vars.map bV), .sl (s.eqs.map cM.pv), .sl [], .sl [], .s []]
def fz (c:Bytes) (nv:Nat) (ch:Bytes) (rs:List (Bool×Bytes)) (gs:List Bytes) (ls:List (List (Bool×Bytes))):Int:=
 if !(aa ch&&rs.all bM&&ls.all (fun l=>l.all bM)&&gs.all aa)then 3 else if rs.length≠nv∨gs≠[]∨ls≠[]then 6 else if num c≤num ch then 2 else 0
def C8 (ch:Bytes) (rs:List (Bool×Bytes)) (gs:List Bytes) (ls:List (List (Bool×Bytes))):PV:= .agg [.s ch, .sl (rs.map cH), .sl (gs.map .s), .sl (ls.map A5)]
theorem vu {c sl:Bytes} (vc:aa c=true) (s:bT) (ch:Bytes) (rs:List (Bool×Bytes)) (gs:List Bytes) (ls:List (List (Bool×Bytes))) (h1:rs.length<1000000) (h2:gs.length≤1000) (h3:ls.length≤1000) (h4: ∀l∈ls,l.length<4611686018427387904):aA Tryz.prog 292 [X0 c sl s,C8 ch rs gs ls] (E (fz c s.vars.length ch rs gs ls)):=by
 have v1:=aG ch;have v2:=xO rs (by omega)
 have v3:=je ls 345 [QG] (fun l=> !l.all bM) (by omega) fun l hl=>xO l (h4 l hl)
 rw[iN]at v3;have v4:=iM gs _ _ (by omega) E6
 rw[iN]at v4;have v5:=R8 347 [.pt (X0 c sl s) 0];obtain⟨gq,vs,es⟩:=s;unfold A5 at v2;simp only[X0,C8,fz]at v5⊢;have l1:(rs.map cH).length=rs.length:=List.length_map ..;have l2:(vs.map bV).length=vs.length:=List.length_map ..;have l3:(gs.map PV.s).length=gs.length:=List.length_map ..;have l4:(ls.map A5).length=ls.length:=List.length_map ..
 by_cases hok:(aa ch&&rs.all bM&&ls.all (fun l=>l.all bM)&&gs.all aa)=true
 ·rw[hok];simp only[Bool.and_eq_true]at hok;obtain⟨⟨⟨o1,o2⟩,o3⟩,o4⟩:=hok;rw[o1]at v1;rw[o2]at v2;rw[o3]at v3;rw[o4]at v4
  by_cases hm:rs.length≠vs.length∨gs≠[]∨ls≠[]
  ·simp only[Bool.not_true,Bool.false_eq_true,if_false,if_pos hm];have hm':rs.length≠vs.length∨(rs.length=vs.length∧gs.length≠0)∨(rs.length=vs.length∧gs.length=0∧ls.length≠0):=by
    rcases hm with h|h|h
    ·exact .inl h
    ·have:gs.length≠0:=fun h0=>h (List.length_eq_zero_iff.1 h0)
     omega
    ·have:ls.length≠0:=fun h0=>h (List.length_eq_zero_iff.1 h0)
     omega
   clear hm v5 o2 o3 o4 h4;rcases hm' with h|⟨h,h'⟩|⟨h,h',h''⟩
   all_goals (
   refine eW Tryz.call292 Tryz.func292 ?_;repeat' first|simp only[go_sem,seval,aH,l1,l2,l3,l4]|refine cP v1 ?_|refine cV v2 ?_|refine cV v3 ?_|refine cP v4 ?_|refine sB ?_|(first|apply pX|apply bX)<;>intro hc|refine⟨oD,?_⟩|exact oD|fail
   try trivial)
   all_goals fail "a"
  ·simp only[Bool.not_true,Bool.false_eq_true,if_false,if_neg hm];have hm':rs.length=vs.length∧gs=[]∧ls=[]:=by
    refine⟨Decidable.byContradiction fun h=>hm (.inl h),Decidable.byContradiction fun h=>hm (.inr (.inl h)),Decidable.byContradiction fun h=>hm (.inr (.inr h))⟩
   obtain⟨e1,e2,e3⟩:=hm';subst e2;subst e3;have cm:=mc o1 vc;simp only[List.map_nil]at v3 v4;clear hm h4
   by_cases hge:num c≤num ch
   ·rw[if_pos hge];have h7: ∀ _:True,(0:Int)≤aO (num ch) (num c):=fun _=>fQ.2 hge
    have h5: ∀ _:True,decide (aO (num ch) (num c)≥0)=true:=fun _=>decide_eq_true (h7 trivial)
    generalize aO (num ch) (num c)=z at*;refine eW Tryz.call292 Tryz.func292 ?_;repeat' first|simp only[go_sem,seval,aH,l1,l2,h5 trivial]|refine cP v1 ?_|refine cV v2 ?_|refine cV v3 ?_|refine cP v4 ?_|refine cP cm ?_|(refine ae ?_)|refine sB ?_|(first|apply pX|apply bX)<;>intro hc|refine⟨oD,?_⟩|exact oD|fail
   ·rw[if_neg hge];have h7: ∀ _:True,¬(0:Int)≤aO (num ch) (num c):=fun _ h=>hge (fQ.1 h)
    have h5: ∀ _:True,decide (aO (num ch) (num c)≥0)=false:=fun _=>decide_eq_false (h7 trivial)
    generalize aO (num ch) (num c)=z at*;refine eW Tryz.call292 Tryz.func292 ?_;repeat' first|simp only[go_sem,seval,aH,l1,l2,h5 trivial]|refine cP v1 ?_|refine cV v2 ?_|refine cV v3 ?_|refine cP v4 ?_|refine cP cm ?_|refine cV v5 ?_|(refine ae ?_)|refine sB ?_|(first|apply pX|apply bX)<;>intro hc|refine⟨oD,?_⟩|exact oD|fail
 ·have hf:(aa ch&&rs.all bM&&ls.all (fun l=>l.all bM)&&gs.all aa)=false:=by simpa using hok
  rw[hf];simp only[Bool.not_false,if_true];clear hok v5 h4;generalize aa ch=b1 at*;generalize rs.all bM=b2 at*;generalize (ls.all fun l=>l.all bM)=b3 at*
  generalize gs.all aa=b4 at*;cases b1
  ·refine eW Tryz.call292 Tryz.func292 ?_;repeat' first|simp only[go_sem,seval,aH,l1,l2,l3,l4]|refine cP v1 ?_|refine cV v2 ?_|refine cV v3 ?_|refine cP v4 ?_|refine sB ?_|(first|apply pX|apply bX)<;>intro hc|refine⟨oD,?_⟩|exact oD|fail
  ·cases b2
   ·refine eW Tryz.call292 Tryz.func292 ?_;repeat' first|simp only[go_sem,seval,aH,l1,l2,l3,l4]|refine cP v1 ?_|refine cV v2 ?_|refine cV v3 ?_|refine cP v4 ?_|refine sB ?_|(first|apply pX|apply bX)<;>intro hc|refine⟨oD,?_⟩|exact oD|fail
   ·cases b3
    ·refine eW Tryz.call292 Tryz.func292 ?_;repeat' first|simp only[go_sem,seval,aH,l1,l2,l3,l4]|refine cP v1 ?_|refine cV v2 ?_|refine cV v3 ?_|refine cP v4 ?_|refine sB ?_|(first|apply pX|apply bX)<;>intro hc|refine⟨oD,?_⟩|exact oD|fail
    ·cases b4
     ·refine eW Tryz.call292 Tryz.func292 ?_;repeat' first|simp only[go_sem,seval,aH,l1,l2,l3,l4]|refine cP v1 ?_|refine cV v2 ?_|refine cV v3 ?_|refine cP v4 ?_|refine sB ?_|(first|apply pX|apply bX)<;>intro hc|refine⟨oD,?_⟩|exact oD|fail
     ·exact absurd hf (by simp)
end Go.Proofs.YtmobkhegihemeaaGreatDoor
namespace Go.Proofs.YtmobkhegihemeaaGreatDoor
open Go Go.Dom Go.Num
set_option maxRecDepth 100000
set_option maxHeartbeats 16000000
theorem Cm (l:List Bytes) (hl:l.length<1000000):aA Tryz.prog 57 [.sl (l.map .s)] (.sl (l.map .s)):=by
 cases l with
 |nil=>exact AF
 |cons x r=>
  rw[List.map_cons];have k1:(PV.s x::r.map .s)=(x::r).map .s:=rfl;have k0:(r.map PV.s).length=r.length:=List.length_map ..;refine eW Tryz.call57 Tryz.func57 ?_;repeat' first|simp only[go_sem,seval,k0]|refine sB ?_|(first|apply pX|apply bX)<;>intro hc|refine⟨oD,?_⟩|exact oD|fail
  obtain⟨-,r2,r3,-⟩:=Ih r;obtain⟨-,-,-,r4⟩:=Ih (x::r);rw[pP];refine⟨⟨fun x hx=>tY hx,fun x hx=>List.all_eq_true.1 r2 x hx,by simp at hl;omega,by simp at hl;omega⟩,?_⟩
  simp only[List.length_map,Nat.le_refl,r3,r2,dA,and_self,if_true,Option.map_some];exact⟨trivial,congrArg PV.sl r4⟩
theorem JK (v1 v2 v3:Value) (w:World):CallsD Tryz.prog 265 #[v1,v2,v3] .returning w fun e u' w'=>e= .returned (.tuple #[])∧u'= .returning∧w'=w:=by
 refine callsD_of_wpS Tryz.func265 rfl fun c₀ cs hu=> ?_
 apply wpS_seq;apply wpS_region;simp[wpOpsS,go_sem,recoverD,hu,Tryz.ntmps265,Exit.thenS];apply wpS_seq;apply wpS_region;simp[wpOpsS,go_sem,Exit.thenS];refine wpS_cond (t:=false) (by simp[Act.eval,Array.replicate]) ?_
 simp only[Bool.false_eq_true,if_false];refine wpS_of_wp (wp_skip ?_);cases c₀;simp_all[bodyPostS,results,Tryz.results265]
noncomputable abbrev lF:Code:=Tryz.f187.body.getD .skip
theorem RM (a:Act) (w:World) (Q:Exit→Act→World→Prop) (hd:a.defers=[]) (hs:a.tmps.size=Tryz.f187.ntmps) (hQ: ∀a' d,a'.tmps.size=Tryz.f187.ntmps→(∀k,k≠56→a'.tmps.getD k undef=a.tmps.getD k undef)→a'.defers=[d]→Idle Tryz.prog d→Q .normal a' w):(om (yD 5 lF)).wp Tryz.prog Q a w:=by
 have hmf: ∀(fn:Fn) (first cap:Array Value) (w:World),(Instr.makeFunc fn first cap).run Tryz.prog w= .ok (.func fn first cap) w:=fun _ _ _ _=>rfl
 show(Code.region 6 _ false).wp Tryz.prog Q a w;apply wp_region;simp[wpOps,go_sem,hd];have h10:56<a.tmps.size:=by rw[hs,Tryz.ntmps187];decide
 refine .inl ?_;refine .inl ?_;rw[if_pos h10];refine hQ {tmps:=a.tmps.setIfInBounds 56 (.func (.func 265) #[] #[a.tmps[8]?.getD undef,a.tmps[9]?.getD undef,a.tmps[10]?.getD undef]),defers:=[⟨.fn (.func 265) #[a.tmps[8]?.getD undef,a.tmps[9]?.getD undef,a.tmps[10]?.getD undef], #[]⟩]} ⟨.fn (.func 265) #[a.tmps[8]?.getD undef,a.tmps[9]?.getD undef,a.tmps[10]?.getD undef], #[]⟩ ?_ ?_ ?_ ⟨.func 265, #[a.tmps[8]?.getD undef,a.tmps[9]?.getD undef,a.tmps[10]?.getD undef],265, #[a.tmps[8]?.getD undef,a.tmps[9]?.getD undef,a.tmps[10]?.getD undef],rfl,fun w=>⟨?_,JK _ _ _ w⟩⟩
 ·simp[hs]
 ·intro k hk;simp[Array.getElem?_setIfInBounds_ne (Ne.symm hk)]
 ·rfl
 ·simp[invoke,go_sem]
theorem Ib:Tryz.f187.body=some (IA [om (yD 0 lF),om (yD 1 lF),om (yD 2 lF),om (yD 3 lF),om (yD 4 lF)] (.seq (om (yD 5 lF)) (yD 6 lF))):=by kernel_rfl
theorem GM {nt:Nat} {c:Code} {sc:SC} {r:List Code} {s s1 s2:AS} (h:CW Tryz.prog (fun e x=>e= .normal∧s1.Le x) sc [] s) (hr:Mz Tryz.prog nt r s1 s2) (hc:iq Tryz.prog LV nt c=some sc:=by cbv) (hng:sc.cj=true:=by exact rfl):Mz Tryz.prog nt (c::r) s s2:= .cons (fh.1 _ _ _ hc) hng (CW.start h) hr
theorem Iy (vs:List Bytes) (sd:Bytes) (a:Int) (hl:vs.length<1000000):aA Tryz.prog 187 [C0, .sl [], .s [],T vs sd a] (.tup [.agg [.sl [], .sl [], .sl [], .sl []],T vs sd a,E 0]):=by
 have hc:=Cm vs hl;have ho:aA Tryz.prog 201 [C0] (.s []):=by
  refine eW Tryz.call201 Tryz.func201 ?_;repeat' first|simp only[go_sem,seval]|(refine ae ?_)|refine sB ?_|(first|apply pX|apply bX)<;>intro hc|refine⟨oD,?_⟩|exact oD|fail
 refine aA.EE (sl:=56) (pre:=[om (yD 0 lF),om (yD 1 lF),om (yD 2 lF),om (yD 3 lF),om (yD 4 lF)]) (cD:=om (yD 5 lF)) (c2:=yD 6 lF) (s2:=⟨[(1, .v (.sl [])),(8, .p 1002 0 0),(9, .p 1003 0 0),(10, .p 1004 0 0),(11, .v (.sl [])),(12, .p 1014 0 0)],[(1002,⟨0,[.sn, .sn, .sn, .sn],false,some 172⟩),(1003,⟨0,[.sn, .v (.s []), .v (.i .i64 0)],false,some 40⟩),(1004,⟨0,[.v (.i .i64 0)],false,some 32⟩),(1014,⟨0,[.v (.sl []), .v (.sl []), .v (.s []), .v (.sl (vs.map .s)), .v (.s sd), .v (.i .i64 a), .v (.sl []), .rs 1020 0 0 0 1, .rs 1024 0 0 0 1, .rs 1028 0 0 0 1],false,none⟩),(1020,⟨0,[],false,none⟩),(1024,⟨0,[],false,none⟩),(1028,⟨0,[],false,none⟩)],1042⟩) mixed Tryz.call187 Tryz.func187 Ib rfl (fh.1 _ _ _ (by cbv)) (fh.2 _ _ (by cbv)) RM (Nat.le_of_ble_eq_true rfl) rfl (GM (s1:=⟨[(1, .v (.sl [])),(2, .v (.s [])),(4, .p 1000 0 0),(7, .p 1001 0 0),(8, .p 1002 0 0),(9, .p 1003 0 0),(10, .p 1004 0 0)],[(1000,⟨0,[.v (.sl []), .v (.sl [])],false,none⟩),(1001,⟨0,[.v (.sl (vs.map .s)), .v (.s sd), .v (.i .i64 a)],false,none⟩),(1002,⟨0,[.sn, .sn, .sn, .sn],false,some 172⟩),(1003,⟨0,[.sn, .v (.s []), .v (.i .i64 0)],false,some 40⟩),(1004,⟨0,[.v (.i .i64 0)],false,some 32⟩)],1005⟩) ?_ (GM (s1:=⟨[(1, .v (.sl [])),(2, .v (.s [])),(4, .p 1000 0 0),(7, .p 1001 0 0),(8, .p 1002 0 0),(9, .p 1003 0 0),(10, .p 1004 0 0),(11, .v (.sl []))],[(1000,⟨0,[.v (.sl []), .v (.sl [])],false,none⟩),(1001,⟨0,[.v (.sl (vs.map .s)), .v (.s sd), .v (.i .i64 a)],false,none⟩),(1002,⟨0,[.sn, .sn, .sn, .sn],false,some 172⟩),(1003,⟨0,[.sn, .v (.s []), .v (.i .i64 0)],false,some 40⟩),(1004,⟨0,[.v (.i .i64 0)],false,some 32⟩)],1009⟩) ?_ (GM (s1:=⟨[(1, .v (.sl [])),(2, .v (.s [])),(4, .p 1000 0 0),(7, .p 1001 0 0),(8, .p 1002 0 0),(9, .p 1003 0 0),(10, .p 1004 0 0),(11, .v (.sl [])),(12, .p 1014 0 0)],[(1000,⟨0,[.v (.sl []), .v (.sl [])],false,none⟩),(1001,⟨0,[.v (.sl (vs.map .s)), .v (.s sd), .v (.i .i64 a)],false,none⟩),(1002,⟨0,[.sn, .sn, .sn, .sn],false,some 172⟩),(1003,⟨0,[.sn, .v (.s []), .v (.i .i64 0)],false,some 40⟩),(1004,⟨0,[.v (.i .i64 0)],false,some 32⟩),(1014,⟨0,[.v (.sl []), .v (.sl []), .v (.s []), .v (.sl (vs.map .s)), .v (.s sd), .v (.i .i64 a), .sn, .sn, .sn, .sn],false,none⟩)],1016⟩) ?_ ?_))) (CW.start ?_)
 ·simp only[List.mapIdx_cons,List.mapIdx_nil];repeat' first|simp only[go_sem,seval]|refine sB ?_|(first|apply pX|apply bX)<;>intro hc|refine⟨oD,?_⟩|exact oD|fail
  exact lE
 ·repeat' first|simp only[go_sem,seval]|refine sB ?_|(first|apply pX|apply bX)<;>intro hc|refine⟨oD,?_⟩|exact oD|fail
  exact lE
 ·repeat' first|simp only[go_sem,seval]|refine cP ho ?_|refine sB ?_|(first|apply pX|apply bX)<;>intro hc|refine⟨oD,?_⟩|exact oD|fail
  exact lE
 ·refine GM (s1:=⟨[(1, .v (.sl [])),(8, .p 1002 0 0),(9, .p 1003 0 0),(10, .p 1004 0 0),(11, .v (.sl [])),(12, .p 1014 0 0)],[(1002,⟨0,[.sn, .sn, .sn, .sn],false,some 172⟩),(1003,⟨0,[.sn, .v (.s []), .v (.i .i64 0)],false,some 40⟩),(1004,⟨0,[.v (.i .i64 0)],false,some 32⟩),(1014,⟨0,[.v (.sl []), .v (.sl []), .v (.s []), .v (.sl (vs.map .s)), .v (.s sd), .v (.i .i64 a), .v (.sl []), .rs 1020 0 0 0 1, .rs 1024 0 0 0 1, .rs 1028 0 0 0 1],false,none⟩),(1020,⟨0,[],false,none⟩),(1024,⟨0,[],false,none⟩),(1028,⟨0,[],false,none⟩)],1033⟩) ?_ (GM ?_ (.nil _))
  ·repeat' first|simp only[go_sem,seval]|refine sB ?_|(first|apply pX|apply bX)<;>intro hc|refine⟨oD,?_⟩|exact oD|fail
   exact lE
  ·repeat' first|simp only[go_sem,seval]|refine sB ?_|(first|apply pX|apply bX)<;>intro hc|refine⟨oD,?_⟩|exact oD|fail
   exact lE
 ·repeat' first|simp only[go_sem,seval]|(refine ae ?_)|refine cP hc ?_|refine sB ?_|(first|apply pX|apply bX)<;>intro hc|refine⟨oD,?_⟩|exact oD|fail
  all_goals rfl
theorem Hn (l:List Bytes) (hl:l.length<1000000):aA Tryz.prog 198 [.sl (l.map .s)] (.b (l.all aa)):=by
 have h1: ∀x,aA Tryz.prog 283 [PV.s x] (.b (!aa x)):=fun x=>by
  have hv:=aG x;generalize aa x=b at*;refine eW Tryz.call283 Tryz.func283 ?_;repeat' first|simp only[go_sem,seval]|refine cP hv ?_|refine sB ?_|(first|apply pX|apply bX)<;>intro hc|refine⟨oD,?_⟩|exact oD|fail
 have hc:=iM l _ _ (by omega) h1
 rw[iN]at hc;generalize l.all aa=b at*;refine eW Tryz.call198 Tryz.func198 ?_;repeat' first|simp only[go_sem,seval,Bool.not_not]|refine cP hc ?_|refine sB ?_|(first|apply pX|apply bX)<;>intro hc|refine⟨oD,?_⟩|exact oD|fail
theorem ym (vs:List Bytes) (sd:Bytes) (a:Int) (hl:vs.length<1000000):aA Tryz.prog 185 [T vs sd a] (.b (dc vs a)):=by
 have h:=Hn vs hl;unfold dc;rw[iN,Bool.not_not];generalize vs.all aa=b at*;refine eW Tryz.call185 Tryz.func185 ?_;repeat' first|simp only[go_sem,seval]|refine cP h ?_|refine sB ?_|(first|apply pX|apply bX)<;>intro hc|refine⟨oD,?_⟩|exact oD|fail
 all_goals simp_all
 all_goals (intros;omega)
theorem Na:aA Tryz.prog 184 [.sl []] (.b true):=by
 have hi:aA Tryz.prog 252 [.sl [], .fn (.func 262)] (E (-1)):=by
  refine eW Tryz.call252 Tryz.func252 ?_;repeat' first|simp only[go_sem,seval]|(refine ae ?_)|refine sB ?_|(first|apply pX|apply bX)<;>intro hc|refine⟨oD,?_⟩|exact oD|fail
 have h:aA Tryz.prog 173 [.sl [], .fn (.func 262)] (.b false):=by
  refine eW Tryz.call173 Tryz.func173 ?_;repeat' first|simp only[go_sem,seval]|refine cP hi ?_|refine sB ?_|(first|apply pX|apply bX)<;>intro hc|refine⟨oD,?_⟩|exact oD|fail
 refine eW Tryz.call184 Tryz.func184 ?_;repeat' first|simp only[go_sem,seval]|refine cP h ?_|refine sB ?_|(first|apply pX|apply bX)<;>intro hc|refine⟨oD,?_⟩|exact oD|fail
theorem NG:aA Tryz.prog 256 [F0, .sl []] (.sl []):=by
 refine eW Tryz.call256 Tryz.func256 ?_;repeat' first|simp only[go_sem,seval]|(refine ae ?_)|refine sB ?_|(first|apply pX|apply bX)<;>intro hc|refine⟨oD,?_⟩|exact oD|fail
theorem pT:aA Tryz.prog 180 [F0, .sl []] (.tup [.sl [],E 0]):=by
 refine eW Tryz.call180 Tryz.func180 ?_;repeat' first|simp only[go_sem,seval]|refine cP Bk ?_|refine cP NG ?_|refine sB ?_|(first|apply pX|apply bX)<;>intro hc|refine⟨oD,?_⟩|exact oD|fail
theorem J1:aA Tryz.prog 264 [F0, .sl []] (.tup [.sl [],E 0]):=by
 refine eW Tryz.call264 Tryz.func264 ?_;repeat' first|simp only[go_sem,seval]|refine cP pT ?_|refine sB ?_|(first|apply pX|apply bX)<;>intro hc|refine⟨oD,?_⟩|exact oD|fail
theorem HE:aA Tryz.prog 186 [C0, .sl []] (.tup [.sl [],E 0]):=by
 refine eW Tryz.call186 Tryz.func186 ?_;repeat' first|simp only[go_sem,seval]|(refine ae ?_)|(refine jx [1011] J1 rfl rfl rfl ?_)|refine sB ?_|(first|apply pX|apply bX)<;>intro hc|refine⟨oD,?_⟩|exact oD|fail
abbrev Tw:PV:= .agg [.sl [], .sl [], .sl [], .sl []]
theorem Kf {vs:List Bytes} {a:Int} (sd:Bytes) (hg:dc vs a=true) (hl:vs.length<1000000):aA Tryz.prog 117 [C0, .sl [],T vs sd a] (.tup [Tw,T vs sd a,E 0]):=by
 have h:=ym vs sd a hl;rw[hg]at h;have hr:=Iy vs sd a hl;refine eW Tryz.call117 Tryz.func117 ?_;repeat' first|simp only[go_sem,seval]|refine cP Bo ?_|refine cP Na ?_|refine cP h ?_|refine cP HE ?_|refine cP hr ?_|refine sB ?_|(first|apply pX|apply bX)<;>intro hc|refine⟨oD,?_⟩|exact oD|fail
 all_goals rfl
theorem IK (x:Bool×Bytes):aA Tryz.prog 170 [cH x] (.b (!bM x)):=by
 obtain⟨n,a⟩:=x;have hv:=dI n a;have e:bM (n,a)=(aa a&& !(n&&a==[])):=rfl;rw[e];generalize (aa a&& !(n&&a==[]))=b at*;simp only[cH];refine eW Tryz.call170 Tryz.func170 ?_;repeat' first|simp only[go_sem,seval]|refine cP hv ?_|refine sB ?_|(first|apply pX|apply bX)<;>intro hc|refine⟨oD,?_⟩|exact oD|fail
theorem IX (b:Bytes):aA Tryz.prog 175 [bV b] (.s b):=by
 unfold bV;refine eW Tryz.call175 Tryz.func175 ?_;repeat' first|simp only[go_sem,seval]|refine sB ?_|(first|apply pX|apply bX)<;>intro hc|refine⟨oD,?_⟩|exact oD|fail
theorem Ke (m:Bytes):aA Tryz.prog 176 [.sl [G m []], .fn (.func 177)] (E (-1)):=by
 have h:aA Tryz.prog 177 [G m []] (.b false):=by
  refine eW Tryz.call177 Tryz.func177 ?_;repeat' first|simp only[go_sem,seval]|refine sB ?_|(first|apply pX|apply bX)<;>intro hc|refine⟨oD,?_⟩|exact oD|fail
  all_goals rfl
 refine eW Tryz.call176 Tryz.func176 ?_;repeat' first|simp only[go_sem,seval]|refine sB ?_|(first|apply pX|apply bX)<;>intro hc|refine⟨oD,?_⟩|exact oD|fail
 refine ae ?_;repeat' first|simp only[go_sem,seval]|refine cP h ?_|refine sB ?_|(first|apply pX|apply bX)<;>intro hc|refine⟨oD,?_⟩|exact oD|fail
 refine ae ?_;repeat' first|simp only[go_sem,seval]|refine sB ?_|(first|apply pX|apply bX)<;>intro hc|refine⟨oD,?_⟩|exact oD|fail
theorem Bf {vs:List Bytes} (sd:Bytes) {a:Int} (hl:vs.length<1000000):aA Tryz.prog 92 [T vs sd a, .s [1],E 0] (if dc vs a then .tup [.sl [],T vs sd a,E 0]else .tup [.sl [],T [] [] 0,E 3]):=by
 have h1:=lG vs sd a [1] (by omega)
 have e:oj vs a [1]=if dc vs a then 0 else 3:=by unfold oj;cases dc vs a<;>rfl
 rw[e]at h1;generalize dc vs a=b at*;cases b
 ·refine eW Tryz.call92 Tryz.func92 ?_;repeat' first|simp only[go_sem,seval]|refine cP h1 ?_|refine sB ?_|(first|apply pX|apply bX)<;>intro hc|refine⟨oD,?_⟩|exact oD|fail
  all_goals rfl
 ·refine eW Tryz.call92 Tryz.func92 ?_;repeat' first|simp only[go_sem,seval]|refine cP h1 ?_|(refine ae ?_)|refine sB ?_|(first|apply pX|apply bX)<;>intro hc|refine⟨oD,?_⟩|exact oD|fail
  all_goals rfl
end Go.Proofs.YtmobkhegihemeaaGreatDoor
namespace Go.Proofs.YtmobkhegihemeaaGreatDoor
open Go Go.Dom
set_option maxRecDepth 100000
set_option maxHeartbeats 16000000
abbrev Sn:PV:= .agg [.sl [], .s [], .sl []]
abbrev B0:PV:= .agg [.sl [], .sl []]
theorem CG {c sl:Bytes} (hr:mD c sl) {s:bT} {ch:Bytes} {rs:List (Bool×Bytes)} {gs:List Bytes} {ls:List (List (Bool×Bytes))} (h1:rs.length<1000000) (h2:gs.length≤1000) (h3:ls.length≤1000) (h4: ∀l∈ls,l.length<4611686018427387904) (hf:fz c s.vars.length ch rs gs ls≠0):
  aA Tryz.prog 206 [X0 c sl s,C8 ch rs gs ls] (.tup [Sn,B0,E (fz c s.vars.length ch rs gs ls)]):=by
 have hfo:=vu (c:=c) (sl:=sl) hr.vc s ch rs gs ls h1 h2 h3 h4;have hb:(fz c s.vars.length ch rs gs ls==0)=false:=by simpa using hf
 generalize fz c s.vars.length ch rs gs ls=e at*;obtain⟨gq,vs,es⟩:=s;simp only[X0,C8]at hfo⊢;refine eW Tryz.call206 Tryz.func206 ?_;repeat' first|simp only[go_sem,seval,hb]|refine cP hfo ?_|refine sB ?_|(first|apply pX|apply bX)<;>intro hc|refine⟨oD,?_⟩|exact oD|fail
 all_goals skip
abbrev xD:Bytes:=[100,111,109,105,110,111,32,112,114,111,111,102]
abbrev Ab:Bytes:=[99,111,110,116,101,120,116]
abbrev IP:Bytes:=[102,111,114,109,117,108,97]
abbrev Oa:Bytes:=[102,105,114,115,116]
def Bh (ctx:Bytes) (s:bT) (fs:List Bytes):Bytes:=fP (fy (mY (fy (lW xD) Ab ctx) s) IP []) Oa fs
theorem yZ {c sl:Bytes} (s:bT) (x:PV) (n:Bytes):aA Tryz.prog 207 [X0 c sl s,B0, .s n] (.b true):=by
 obtain⟨gq,vs,es⟩:=s;simp only[X0];refine eW Tryz.call207 Tryz.func207 ?_;repeat' first|simp only[go_sem,seval]|refine sB ?_|(first|apply pX|apply bX)<;>intro hc|refine⟨oD,?_⟩|exact oD|fail
noncomputable def oQ (s:bT) (ch:Bytes) (rs:List (Bool×Bytes)):List Bytes:=s.eqs.map fun q=>aI (iS s.groups ch rs q)
theorem Di {c:Bytes} {nv:Nat} {ch:Bytes} {rs:List (Bool×Bytes)} {gs:List Bytes} {ls:List (List (Bool×Bytes))} (h:fz c nv ch rs gs ls=0):gs=[]∧ls=[]:=by
 unfold fz at h
 split at h
 ·exact absurd h (by decide)
 ·split at h
  ·exact absurd h (by decide)
  ·rename_i hm;exact⟨Decidable.byContradiction fun h=>hm (.inr (.inl h)),Decidable.byContradiction fun h=>hm (.inr (.inr h))⟩
end Go.Proofs.YtmobkhegihemeaaGreatDoor
namespace Go.Proofs.YtmobkhegihemeaaGreatDoor
open Go Go.Dom Go.Num
set_option maxRecDepth 100000
def rQ (vs:List Bytes) (sd:Bytes) (i M:Nat):Except Int Int:=
 match eF vs sd i (aI (2*M-1))with
 | .error e=> .error e
 | .ok x=> .ok ((num x:Int)-(M-1:Nat))
theorem tc (st:Bytes) {c:Bytes} (h:2≤num c):gJ st c<num c:=Nat.mod_lt _ (by omega)
theorem HC {f:Nat→Bytes} {n:Nat} {x:Bytes}: ∀{k a:Nat},xw f n a k=some x→num x<n∧ ∃b,x=f b:=by
 intro k
 induction k with
 |zero=>intro a h;cases h
 |succ k ih=>
  intro a h;rw[xw]at h
  split at h
  ·rename_i hlt;injection h with h
   subst h;exact⟨hlt,a,rfl⟩
  ·exact ih h
theorem eE {vs:List Bytes} {sd:Bytes} {i:Nat} {n x:Bytes} (hv:vs.all aa=true) (hn:aa n=true) (hl:vs.length<1000000) (hi:i≤2147483647) (h:eF vs sd i n= .ok x):aa x=true∧num x<num n∧i+1≤2147483647:=by
 unfold eF at h
 split at h
 ·rename_i hiv
  split at h
  ·cases h
  ·rename_i hlt;injection h with h
   subst h;exact⟨List.all_eq_true.1 hv _ (xZ hiv),by omega,by omega⟩
 ·split at h
  ·cases h
  ·rename_i hs;have hi2:i≠2147483647:=fun e=>hs (.inr e)
   split at h
   ·rename_i y hy;injection h with h
    subst h;obtain⟨h1,b,hb⟩:=HC hy;exact⟨by rw[hb];exact qA sd i b (wq hn),h1,by omega⟩
   ·cases h
theorem Fg {vs:List Bytes} {sd:Bytes} {i M:Nat} {z:Int} (hv:vs.all aa=true) (h1:1≤M) (h2:2*M<bR) (hl:vs.length<1000000) (hi:i≤2147483647) (h:rQ vs sd i M= .ok z):z.natAbs<M∧i+1≤2147483647:=by
 unfold rQ at h
 split at h
 ·cases h
 ·rename_i x hx;obtain⟨-,h3,h4⟩:=eE hv (vB (by omega)) hl hi hx
  rw[aE]at h3;injection h with h
  subst h;exact⟨by omega,h4⟩
theorem jc {vs:List Bytes} {sd:Bytes} {i:Nat} {n:Bytes} {e:Int} (h:eF vs sd i n= .error e):e=2∨e=14:=by
 unfold eF at h
 split at h
 ·split at h
  ·injection h with h;exact .inl h.symm
  ·cases h
 ·split at h
  ·injection h with h;exact .inr h.symm
  ·split at h
   ·cases h
   ·injection h with h;exact .inr h.symm
theorem DF {vs:List Bytes} {sd:Bytes} {i M:Nat} {e:Int} (h:rQ vs sd i M= .error e):e=2∨e=14:=by
 unfold rQ at h
 split at h
 ·rename_i e' he;injection h with h
  subst h;exact jc he
 ·cases h
theorem uB {x:Bytes} (h:aa x=true):ik (num x:Int)=(false,x):=by
 have e:aI (num x)=x:=by have:=dt h;injection this
 simp[ik,zs,zb,e]
end Go.Proofs.YtmobkhegihemeaaGreatDoor
namespace Go.Proofs.YtmobkhegihemeaaGreatDoor
open Go Go.Dom Go.Num
set_option maxRecDepth 100000
set_option maxHeartbeats 16000000
def mB (vs:List Bytes) (sd:Bytes) (i:Nat):Except Int Int→PV
 | .ok z=> .tup [Z z,T vs sd (i+1:Nat),E 0]
 | .error e=> .tup [.agg [.b false, .s []],T [] [] 0,E e]
theorem sV {vs:List Bytes} {sd:Bytes} {i M:Nat} (hv:vs.all aa=true) (hi:i≤2147483647) (hl:vs.length<1000000) (hsd:sd.length<1000000) (h1:1≤M) (h2:3*M<bR):aA Tryz.prog 261 [T vs sd i,N M] (mB vs sd i (rQ vs sd i M)):=by
 have hM:aI M≠[]:=by rw[ne_eq,ep];omega
 have hN:aa (aI (2*M-1))=true:=vB (by omega)
 have hr:=lG vs sd i (aI M) (by omega)
 rw[Ag hv (vB (by omega)) hM hi]at hr
 have ha:=Jb (a:=M) (b:=M) (by omega)
 have hs:=oV (a:=M) (b:=1) (by omega) (by omega)
 have ho:=oV (a:=M+M) (b:=1) (by omega) (by omega)
 have hd:=qH (sd:=sd) hv hN (by rw[aE];omega) hi hl hsd
 rw[←cE]at hs ho;rw[show M+M-1=2*M-1 by omega]at ho
 unfold rQ;generalize hD:eF vs sd i (aI (2*M-1))=r at*
 cases r with
 |error e=>
  unfold jI at hd;unfold mB;rcases jc hD with rfl|rfl
  ·refine eW Tryz.call261 Tryz.func261 ?_;repeat' first|simp only[go_sem,seval]|refine cP hr ?_|refine cP ha ?_|refine cP hs ?_|refine cP ho ?_|refine cP hd ?_|refine sB ?_|(first|apply pX|apply bX)<;>intro hc|refine⟨oD,?_⟩|exact oD|fail
   all_goals rfl
  ·refine eW Tryz.call261 Tryz.func261 ?_;repeat' first|simp only[go_sem,seval]|refine cP hr ?_|refine cP ha ?_|refine cP hs ?_|refine cP ho ?_|refine cP hd ?_|refine sB ?_|(first|apply pX|apply bX)<;>intro hc|refine⟨oD,?_⟩|exact oD|fail
   all_goals rfl
 |ok x=>
  obtain⟨vx,hx,-⟩:=eE hv hN hl hi hD;rw[aE]at hx;have hz:=Lb (x:=(num x:Int)) (y:=((M-1:Nat):Int)) (by omega)
  have e1:Z (num x:Int)= .agg [.b false, .s x]:=by rw[←Ku,uB vx];rfl
  have e2:Z ((M-1:Nat):Int)= .agg [.b false,N (M-1)]:=rfl;rw[e1,e2]at hz;unfold jI at hd;unfold mB;simp only;refine eW Tryz.call261 Tryz.func261 ?_;repeat' first|simp only[go_sem,seval]|refine cP hr ?_|refine cP ha ?_|refine cP hs ?_|refine cP ho ?_|refine cP hd ?_|refine cP hz ?_|refine sB ?_|(first|apply pX|apply bX)<;>intro hc|refine⟨oD,?_⟩|exact oD|fail
  all_goals rfl
theorem wT:cU Zp 2:=⟨fun _=>rfl,fun x y hy=>by simp[Zp,cH,ik,PV.cells]at hy;rcases hy with rfl|rfl<;>rfl,fun h=>by omega,fun _ x=>rfl⟩
def Ee (vs:List Bytes) (sd:Bytes) (j:Nat):Except Int (List Int)→PV
 | .ok ms=> .tup [.sl (ms.map Zp),T vs sd j,E 0]
 | .error e=> .tup [.sl [],T [] [] 0,E e]
theorem uZ {c sl b:Bytes} (hr:mD c sl) (vb:aa b=true) (hb:b≠[]) (lb:b.length≤16):1≤qG c sl b∧3*qG c sl b<bR:=by
 have h1:=hr.c2;have h2:=hr.s2;have h3:=uU vb hb;unfold qG;refine⟨Nat.mul_pos (Nat.mul_pos (by omega) (by omega)) (by omega),?_⟩
 have g1:num sl<256^8:=Nat.lt_of_lt_of_le (aZ sl) (Nat.pow_le_pow_right (by decide) hr.ls)
 have g2:num c<256^8:=Nat.lt_of_lt_of_le (aZ c) (Nat.pow_le_pow_right (by decide) hr.lc)
 have g3:num b<256^16:=Nat.lt_of_lt_of_le (aZ b) (Nat.pow_le_pow_right (by decide) lb)
 have g4:num sl*num c*num b≤256^8*256^8*256^16:=Nat.mul_le_mul (Nat.mul_le_mul (Nat.le_of_lt g1) (Nat.le_of_lt g2)) (Nat.le_of_lt g3);exact Nat.lt_of_le_of_lt (Nat.mul_le_mul_left 3 g4) (by unfold bR;decide+kernel)
theorem A1 (ms:List Int) (z:Int):aV Zp (ms++[z])=aV Zp ms++[.v (.b (zs z)), .v (.s (zb z))]:=by rw[cq];rfl

def P8 (vs:List Bytes) (sd:Bytes):Except Int (Bytes×List Int×Nat)→PV
 | .ok (ch,rs,j)=> .tup [.agg [.s ch, .sl (rs.map Zp), .sl [], .sl []],T vs sd j,E 0]
 | .error e=> .tup [.agg [.s [], .sl [], .sl [], .sl []],T [] [] 0,E e]





end Go.Proofs.YtmobkhegihemeaaGreatDoor
namespace Go.Proofs.YtmobkhegihemeaaGreatDoor
open Go Go.Dom
set_option maxRecDepth 100000
set_option maxHeartbeats 16000000


end Go.Proofs.YtmobkhegihemeaaGreatDoor
namespace Go.Proofs.YtmobkhegihemeaaGreatDoor
open Go Go.Dom Go.Num
set_option maxRecDepth 100000
set_option maxHeartbeats 16000000

end Go.Proofs.YtmobkhegihemeaaGreatDoor
namespace Go.Proofs.YtmobkhegihemeaaGreatDoor
open Go Go.Dom Go.Num
set_option maxRecDepth 100000
set_option maxHeartbeats 8000000

end Go.Proofs.YtmobkhegihemeaaGreatDoor
namespace Go.Proofs.YtmobkhegihemeaaGreatDoor
open Go Go.Dom Go.Num
set_option maxRecDepth 100000
set_option maxHeartbeats 16000000
abbrev Nj:aq:=⟨0,[.v (.s []), .v (.s [])],false,none⟩

def Key.rb (k:Key):List Bytes:=k.z::k.u::k.h::k.r
def Key.l (k:Key):List Bytes:=k.m::k.o::k.s::k.rb
end Go.Proofs.YtmobkhegihemeaaGreatDoor
namespace Go.Proofs.YtmobkhegihemeaaGreatDoor
open Go Go.Dom
set_option maxRecDepth 100000
set_option maxHeartbeats 16000000
def RL (k:Key):List Bytes:=k.z::k.u::k.h::k.r
structure SU (k:Key):Prop where
 o:k.o=[]
 gd:eA k.m []=true
 s:qN k.m [] k.s=true
 t: ∀x∈RL k,qN k.m [] x=true
 r:k.r.length≤18
end Go.Proofs.YtmobkhegihemeaaGreatDoor
namespace Go.Proofs.YtmobkhegihemeaaGreatDoor
open Go Go.Dom Go.Num
set_option maxRecDepth 100000
set_option maxHeartbeats 16000000

structure OA (s:bT):Prop where
 g: ∃m o,s.groups=[(m,o)]∧m.length≤1000∧o.length≤1000
 v0:s.vars≠[]
 nv:s.vars.length≤64
 v: ∀b∈s.vars,b.length≤1000
 ne:s.eqs.length≤64
 q: ∀q∈s.eqs,0≤q.iu∧q.iu<100∧q.tgt.length≤1000∧q.terms.length≤64∧ ∀t∈q.terms,0≤t.var∧t.var<100∧t.base.length≤1000∧t.abs.length≤1000
theorem pD {l:List dM} {st:Bytes} (hs:st.length=32):(l.foldl tR st).length=32:=by
 induction l generalizing st with
 |nil=>exact hs
 |cons t l ih=>exact ih (y8 _ _ _)
theorem pW {l:List cM} {st:Bytes} (hs:st.length=32):(l.foldl sL st).length=32:=by
 induction l generalizing st with
 |nil=>exact hs
 |cons q l ih=>exact ih (pD (eV _ _ _))
theorem PA {st:Bytes} (hst:st.length≤1000) {s:bT} (hs:OA s):aA Tryz.prog 190 [.s st,s.pv] (.s (mY st s)):=by
 obtain⟨⟨m,o,hg,lm,lo⟩,v0,nv,hv,ne,hq⟩:=hs;obtain⟨gs,vs,es⟩:=s;simp only at hg v0 nv hv ne hq;subst hg;obtain⟨w0,wr,hw⟩: ∃a b,vs=a::b:=by cases vs with
  |nil=>exact absurd rfl v0
  |cons a b=>exact⟨a,b,rfl⟩
 have hvl:vs.length=wr.length+1:=by rw[hw];rfl
 have hpos: ∀ _:True,(0:Int)<(vs.length:Int):=fun _=>by omega
 have g0:(vs.map bV).getD 0 .fn0= .agg [.s w0]:=by rw[hw];rfl
 simp only[mY,List.flatMap_cons,List.flatMap_nil,List.append_nil,bT.pv,List.map_cons,List.map_nil,dY];have n1:=kj st yB [m,o] (by omega) (by decide) (by simp) (by simp) (by intro s hs;simp at hs;rcases hs with rfl|rfl<;>omega)
 simp only[List.map_cons,List.map_nil]at n1;have n2:=kj (fP st yB [m,o]) Bc vs (by rw[eV];decide) (by decide) v0 (by omega) (fun x hx=>by have:=hv x hx;omega)
 have l2:=eV (fP st yB [m,o]) Bc vs;refine eW Tryz.call190 Tryz.func190 ?_;repeat' first|simp only[go_sem,seval]|(refine ae ?_)|refine sB ?_|(first|apply pX|apply bX)<;>intro hc|refine⟨oD,?_⟩|exact oD|fail
 repeat' first|simp only[go_sem,seval,g0,hpos trivial]|refine sB ?_|(first|apply pX|apply bX)<;>intro hc|refine⟨oD,?_⟩|exact oD|fail
 have hro:[AV.v (PV.s w0)]=aV PV.s (vs.take 1):=by rw[hw];rfl
 rw[hro];refine ai (α:=Nat) (fun j=>vs.length-j) (fun j=>⟨[(0, .v (.s st)),(3, .p 1000 0 0),(5, .rs 1019 0 0 2 1),(6, .rs 1037 j 0 (1+j) 1),(31, .v (.sl (vs.map bV))),(32,E' vs.length),(33,E' (j+1))],[(1000,⟨0,[.v (.sl [.agg [.s m, .s o]]), .v (.sl (vs.map bV)), .v (.sl (es.map cM.pv))],false,none⟩),(1019,⟨0,[.v (.s m), .v (.s o)],true,some 22⟩),(1037,⟨j,aV PV.s (vs.take (j+1)),true,some 22⟩)],1041⟩) (fun j=>j+1≤vs.length) 0 (fun _=>Nat.le_of_ble_eq_true rfl) (by omega) ?_ ?_
 ·(refine AS.Le.of (by first|decide|omega) ?_ ?_<;>simp[bz,bA,aD,ak,AV.bd,AV.bd.bdL,u8,af,ah,aj])
  all_goals exact fun c hc=>cJ hc
 ·intro j hj R hR;have hlr:(vs.take (j+1)).length=1+j:=by rw[List.length_take];omega
  have q0:(aV PV.s (vs.take (j+1))).length=1+j:=by rw[cf cU.s,hlr,Nat.mul_one]
  have q1:List.take (1+j) (aV PV.s (vs.take (j+1)))=aV PV.s (vs.take (j+1)):=List.take_of_length_le (by omega)
  by_cases hjt:j+1<vs.length
  ·have e2:=getD_map bV vs ([]:Bytes) hjt;have hgo:=hR (j+1) (by omega) (by omega)
   rw[aP ([]:Bytes) hjt,cq]at hgo;generalize vs.getD (j+1) []=y at e2 hgo;have e2:(vs.map bV).getD (j+1) .fn0= .agg [.s y]:=e2;have e3: ∀ _:True,((j:Int)+1).toNat=j+1:=fun _=>by omega
   clear hR hlr n1 n2;repeat' first|simp only[go_sem,seval,q0,q1,e2,e3 trivial]|refine sB ?_|(first|apply pX|apply bX)<;>intro hc|refine⟨oD,?_⟩|exact oD|fail
   refine hgo _ ?_
   (refine AS.Le.of (by first|decide|omega) ?_ ?_<;>simp[bz,bA,aD,ak,AV.bd,AV.bd.bdL,u8,af,ah,aj])
   all_goals first|omega|exact⟨rfl,fun c hc=>by rcases hc with hc|⟨a,ha,rfl⟩;exact cJ hc;rfl⟩|skip
  ·have hj2:j+1=vs.length:=by omega
   rw[hj2,List.take_length]at hlr q0 q1⊢;clear hR hpos g0 hro;repeat' first|simp only[go_sem,seval,q0,q1]|refine cV n1 ?_|(refine GW (l:=vs) (g:=PV.s) (ver:=j) (gr:=true) (el:=some 22) n2 cU.s rfl (by simp[ak]) hlr.symm ?_)|refine sB ?_|(first|apply pX|apply bX)<;>intro hc|refine⟨oD,?_⟩|exact oD|fail
   generalize fP (fP st yB [m,o]) Bc vs=s0 at l2⊢;clear n1 n2;refine ai (α:=Nat) (fun i=>es.length-i) (fun i=>⟨[(0, .v (.s ((es.take i).foldl sL s0))),(50, .v (.sl (es.map cM.pv))),(51,E' es.length),(52,E' i)],[],_⟩) (fun i=>i≤es.length) 0 (fun _=>Nat.le_refl _) (Nat.zero_le _) ?_ ?_
   ·(refine AS.Le.of (by first|decide|omega) ?_ ?_<;>simp[bz,bA,aD,ak,AV.bd,AV.bd.bdL,u8,af,ah,aj])
    all_goals rfl
   ·intro i hi R hR
    by_cases hit:i<es.length
    ·have e2:=getD_map cM.pv es gM hit;have hgo:=hR (i+1) (by omega) (by omega)
     rw[qf sL s0 gM hit]at hgo;obtain⟨g1,g2,g3,nt,ht⟩:=hq _ (ax gM hit);have hX:=pW (l:=es.take i) l2;generalize (es.take i).foldl sL s0=X at hgo hX⊢;generalize es.getD i gM=q at*;obtain⟨iu,tgt,ts⟩:=q;simp only at g1 g2 g3 nt ht;obtain⟨n,rfl⟩: ∃n:Nat,iu=(n:Int):=⟨iu.toNat,by omega⟩
     have e2:(es.map cM.pv).getD i .fn0= .agg [.i .i64 (n:Int), .s tgt, .sl (ts.map dM.pv)]:=e2;simp only[sL,Int.toNat_natCast]at hgo;have ln:=wJ n;have l4:(ts.map dM.pv).length=ts.length:=List.length_map ..;have c1:=uy n (by omega)
     have c2:=ph X Gn (jv n) (by omega) (by decide) (by omega)
     have c3:=kj (fy X Gn (jv n)) HF [tgt] (by rw[kq];decide) (by decide) (by simp) (by simp) (by simp;omega)
     have lS:=eV (fy X Gn (jv n)) HF [tgt];generalize fP (fy X Gn (jv n)) HF [tgt]=S0 at*;simp only[List.map_cons,List.map_nil]at c3;clear hR hq;repeat' first|simp only[go_sem,seval,e2,l4]|refine cP c1 ?_|refine cP c2 ?_|refine cP c3 ?_|refine sB ?_|(first|apply pX|apply bX)<;>intro hc|refine⟨oD,?_⟩|exact oD|fail
     refine ai (α:=Nat) (fun k=>ts.length-k) (fun k=>⟨[(0, .v (.s ((ts.take k).foldl tR S0))),(50, .v (.sl (es.map cM.pv))),(51,E' es.length),(52,E' i),(67, .v (.sl (ts.map dM.pv))),(68,E' ts.length),(69,E' k)],[],_⟩) (fun k=>k≤ts.length) 0 (fun _=>Nat.le_refl _) (Nat.zero_le _) ?_ ?_
     ·(refine AS.Le.of (by first|decide|omega) ?_ ?_<;>simp[bz,bA,aD,ak,AV.bd,AV.bd.bdL,u8,af,ah,aj])
      all_goals rfl
     ·clear c1 c2 c3 e2;intro k hk R' hR'
      by_cases hkt:k<ts.length
      ·have e3:=getD_map dM.pv ts gI hkt;have hgo':=hR' (k+1) (by omega) (by omega)
       rw[qf tR S0 gI hkt]at hgo';obtain⟨v1,v2,lb,la⟩:=ht _ (ax gI hkt);have hY:=pD (l:=ts.take k) lS;generalize (ts.take k).foldl tR S0=Y at hgo' hY⊢;generalize ts.getD k gI=t at*;obtain⟨base,vr,ng,ab⟩:=t;simp only at v1 v2 lb la;obtain⟨v,rfl⟩: ∃v:Nat,vr=(v:Int):=⟨vr.toNat,by omega⟩
       have e3:(ts.map dM.pv).getD k .fn0= .agg [.s base, .i .i64 (v:Int), .b ng, .s ab]:=e3;simp only[tR,Int.toNat_natCast]at hgo';have lv:=wJ v;have c4:=uy v (by omega)
       have c5:=ph Y Jo (jv v) (by omega) (by decide) (by omega)
       have c6:=kj (fy Y Jo (jv v)) GG [base] (by rw[kq];decide) (by decide) (by simp) (by simp) (by simp;omega)
       have c7:=Gg (fP (fy Y Jo (jv v)) GG [base]) KV ng ab (by rw[eV];decide) (by decide) (by omega)
       simp only[List.map_cons,List.map_nil]at c6;clear hR' hgo;repeat' first|simp only[go_sem,seval,e3,l4]|refine cP c4 ?_|refine cP c5 ?_|refine cP c6 ?_|refine cP c7 ?_|refine sB ?_|(first|apply pX|apply bX)<;>intro hc|refine⟨oD,?_⟩|exact oD|fail
       refine hgo' _ ?_
       (refine AS.Le.of (by first|decide|omega) ?_ ?_<;>simp[bz,bA,aD,ak,AV.bd,AV.bd.bdL,u8,af,ah,aj])
       all_goals first|omega|skip
      ·have h:k=ts.length:=by omega
       rw[h,List.take_length];repeat' first|simp only[go_sem,seval,l4]|refine sB ?_|(first|apply pX|apply bX)<;>intro hc|refine⟨oD,?_⟩|exact oD|fail
       refine hgo _ ?_
       (refine AS.Le.of (by first|decide|omega) ?_ ?_<;>simp[bz,bA,aD,ak,AV.bd,AV.bd.bdL,u8,af,ah,aj])
       all_goals first|omega|skip
    ·have h:i=es.length:=by omega
     rw[h,List.take_length];repeat' first|simp only[go_sem,seval]|refine sB ?_|(first|apply pX|apply bX)<;>intro hc|refine⟨oD,?_⟩|exact oD|fail
theorem oG {c sl:Bytes} {s:bT} (hp:Bj c sl s):aA Tryz.prog 114 [.agg [.s c, .s sl],s.pv,C0] (.tup [X0 c sl s,E 0]):=by
 have hb:=xN hp;obtain⟨gs,vs,es⟩:=s;simp only[bT.pv,X0]at hb⊢;refine eW Tryz.call114 Tryz.func114 ?_;repeat' first|simp only[go_sem,seval]|refine cP hb ?_|refine cP Bo ?_|refine sB ?_|(first|apply pX|apply bX)<;>intro hc|refine⟨oD,?_⟩|exact oD|fail
theorem zm {st:Bytes} {s:bT}:(mY st s).length=32:=by
 unfold mY;exact pW (eV _ _ _)
theorem qi {c sl:Bytes} (hr:mD c sl) {s:bT} (hb:OA s) {ctx:Bytes} (hx:ctx.length≤100000) {fs:List Bytes} (f0:fs≠[]) (fn:fs.length≤900) (fl: ∀x∈fs,x.length≤100000):
  aA Tryz.prog 118 [X0 c sl s, .s ctx, .sl (fs.map .s), .sl []] (.tup [N (gJ (Bh ctx s fs) c),E 0]):=by
 have c0:c≠[]:=by
  intro h;have:=hr.c2;rw[h]at this;exact absurd this (by decide)
 have n1:=Ka xD (by decide)
 have n2:=ph (lW xD) Ab ctx (by rw[Cv];decide) (by decide) hx
 have n3:=PA (st:=fy (lW xD) Ab ctx) (by rw[kq];decide) hb
 have n4:=ph (mY (fy (lW xD) Ab ctx) s) IP [] (by rw[zm];decide) (by decide) (by decide)
 have n5:=kj (fy (mY (fy (lW xD) Ab ctx) s) IP []) Oa fs (by rw[kq];decide) (by decide) f0 fn fl
 have n6:=r8 (Bh ctx s fs) c (by rw[Bh,eV];decide) hr.vc c0 hr.lc
 have n5:aA Tryz.prog 192 [.s (fy (mY (fy (lW xD) Ab ctx) s) IP []), .s Oa, .sl (fs.map .s)] (.s (Bh ctx s fs)):=n5;generalize Bh ctx s fs=st5 at*;generalize mY (fy (lW xD) Ab ctx) s=st3 at*;obtain⟨gq,vs,es⟩:=s;simp only[X0,bT.pv]at n3⊢;refine eW Tryz.call118 Tryz.func118 ?_;repeat' first|simp only[go_sem,seval]|refine cP n1 ?_|refine cP n2 ?_|refine cP n3 ?_|refine cP n4 ?_|refine cP n5 ?_|refine cP n6 ?_|refine cP NS ?_|(refine ae ?_)|refine sB ?_|(first|apply pX|apply bX)<;>intro hc|refine⟨oD,?_⟩|exact oD|fail
end Go.Proofs.YtmobkhegihemeaaGreatDoor
