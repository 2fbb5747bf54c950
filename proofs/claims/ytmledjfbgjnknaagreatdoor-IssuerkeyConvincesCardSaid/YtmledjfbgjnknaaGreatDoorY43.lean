/-
  Part of the proof, part Y43. Own work.
-/
import Derived.Test.YtmledjfbgjnknaaGreatDoorY42
set_option linter.all false
namespace Go.Proofs.YtmledjfbgjnknaaGreatDoor
open Go Go.Dom
set_option maxRecDepth 100000
set_option maxHeartbeats 16000000

abbrev F0:PV:= .agg [.sl []]
abbrev C0:PV:= .agg [.sl [], .sl []]
theorem leaves0:EvP Tryz.prog 242 [F0] (.tup [E 0, .b true]):=by
 refine eW Tryz.call242 Tryz.func242 ?_;repeat' first|simp only[go_sem,seval]|refine sB ?_|(first|apply pX|apply bX)<;>intro hc|refine⟨oD,?_⟩|exact oD|fail
theorem fCheck0:EvP Tryz.prog 218 [F0,E 0] (E 0):=by
 refine eW Tryz.call218 Tryz.func218 ?_;repeat' first|simp only[go_sem,seval]|refine cP leaves0 ?_|refine sB ?_|(first|apply pX|apply bX)<;>intro hc|refine⟨oD,?_⟩|exact oD|fail
theorem fText0:EvP Tryz.prog 130 [F0] (.tup [.s [],E 0]):=by
 refine eW Tryz.call130 Tryz.func130 ?_;repeat' first|simp only[go_sem,seval]|refine cP leaves0 ?_|refine sB ?_|(first|apply pX|apply bX)<;>intro hc|refine⟨oD,?_⟩|exact oD|fail
theorem bCheck0:EvP Tryz.prog 107 [C0] (E 0):=by
 refine eW Tryz.call107 Tryz.func107 ?_;repeat' first|simp only[go_sem,seval]|refine cP fCheck0 ?_|(refine loop_unroll' ?_)|refine sB ?_|(first|apply pX|apply bX)<;>intro hc|refine⟨oD,?_⟩|exact oD|fail
def lpv (l:List (Bool×Bytes)):PV:= .sl (l.map ipv)
theorem IndexFuncNN_ok (l:List (Bytes)) (f:FuncId) (p:Bytes→Bool) (hl:l.length<4611686018427387904) (h: ∀x,EvP Tryz.prog f [PV.s x] (.b (p x))):EvP Tryz.prog 360 [.sl (l.map PV.s), .fn (.func f)] (E (idxF p 0 l)):=by
 have hlm:(l.map PV.s).length=l.length:=List.length_map ..;refine eW Tryz.call360 Tryz.func360 ?_;repeat' first|simp only[go_sem,seval,hlm]|refine sB ?_|(first|apply pX|apply bX)<;>intro hc|refine⟨oD,?_⟩|exact oD|fail
 refine loop_run (α:=Nat) (fun i=>l.length-i) (fun i=>⟨[(0, .v (.sl (l.map PV.s))),(1, .v (.fn (.func f))),(7, .v (.i .i64 l.length)),(8, .v (.i .i64 (i:Nat)))],[],_⟩) (fun i=>i≤l.length∧idxF p i (l.drop i)=idxF p 0 l) 0 (fun _=>Nat.le_refl _) ⟨Nat.zero_le _,rfl⟩ ?_ ?_
 ·exact lE
 ·rintro i ⟨hi,hx⟩ R hR;rw[←hx]
  by_cases hlt:i<l.length
  ·have e1:=getD_map PV.s l [] hlt;have hf:=h (l.getD i []);have hgo:=hR (i+1);rw[←hx,drop_getD [] hlt]at hgo;rw[drop_getD [] hlt];simp only[idxF]at hgo⊢;clear hx hR h;generalize p (l.getD i [])=b at*;generalize l.getD i []=x at*;cases b
   ·have hgo:=hgo ⟨by omega,rfl⟩ (by omega)
    repeat' first|simp only[go_sem,seval,hlm,e1]|refine cP hf ?_|refine sB ?_|(first|apply pX|apply bX)<;>intro hc|refine⟨oD,?_⟩|exact oD|fail
    refine hgo _ ?_;exact lE
   ·repeat' first|simp only[go_sem,seval,hlm,e1]|refine cP hf ?_|refine sB ?_|(first|apply pX|apply bX)<;>intro hc|refine⟨oD,?_⟩|exact oD|fail
    all_goals rfl
  ·obtain rfl:i=l.length:=by omega
   rw[List.drop_length];repeat' first|simp only[go_sem,seval,hlm]|refine sB ?_|(first|apply pX|apply bX)<;>intro hc|refine⟨oD,?_⟩|exact oD|fail
   all_goals simp[idxF]
theorem ContainsFuncNN_ok (l:List (Bytes)) (f:FuncId) (p:Bytes→Bool) (hl:l.length<4611686018427387904) (h: ∀x,EvP Tryz.prog f [PV.s x] (.b (p x))):EvP Tryz.prog 254 [.sl (l.map PV.s), .fn (.func f)] (.b (l.any p)):=by
 have hi:=IndexFuncNN_ok l f p hl h;have e:decide (idxF p 0 l≥0)=l.any p:=by
  rw[Bool.eq_iff_iff,decide_eq_true_iff];exact idxF_neg
 refine eW Tryz.call254 Tryz.func254 ?_;repeat' first|simp only[go_sem,seval,e]|refine cP hi ?_|refine sB ?_|(first|apply pX|apply bX)<;>intro hc|refine⟨oD,?_⟩|exact oD|fail
theorem IndexFuncL_ok (l:List (List (Bool×Bytes))) (f:FuncId) (c:List PV) (p:List (Bool×Bytes)→Bool) (hl:l.length<4611686018427387904) (h: ∀x∈l,EvP Tryz.prog f (lpv x::c) (.b (p x))):EvP Tryz.prog 222 [.sl (l.map lpv), .fc f [] c] (E (idxF p 0 l)):=by
 have hlm:(l.map lpv).length=l.length:=List.length_map ..;refine eW Tryz.call222 Tryz.func222 ?_;repeat' first|simp only[go_sem,seval,hlm]|refine sB ?_|(first|apply pX|apply bX)<;>intro hc|refine⟨oD,?_⟩|exact oD|fail
 refine loop_run (α:=Nat) (fun i=>l.length-i) (fun i=>⟨[(0, .v (.sl (l.map lpv))),(1, .v (.fc f [] c)),(7, .v (.i .i64 l.length)),(8, .v (.i .i64 (i:Nat)))],[],_⟩) (fun i=>i≤l.length∧idxF p i (l.drop i)=idxF p 0 l) 0 (fun _=>Nat.le_refl _) ⟨Nat.zero_le _,rfl⟩ ?_ ?_
 ·exact lE
 ·rintro i ⟨hi,hx⟩ R hR;rw[←hx]
  by_cases hlt:i<l.length
  ·have e1:=getD_map lpv l [] hlt;have hf:=h (l.getD i []) (mem_getD [] hlt);have hgo:=hR (i+1);rw[←hx,drop_getD [] hlt]at hgo;rw[drop_getD [] hlt];simp only[idxF]at hgo⊢;clear hx hR h;generalize p (l.getD i [])=b at*;generalize l.getD i []=x at*;simp only[lpv]at e1 hf;cases b
   ·have hgo:=hgo ⟨by omega,rfl⟩ (by omega)
    repeat' first|simp only[go_sem,seval,hlm,e1]|(refine CR_pure hf (pvA_map _ _) ?_)|refine sB ?_|(first|apply pX|apply bX)<;>intro hc|refine⟨oD,?_⟩|exact oD|fail
    refine hgo _ ?_;exact lE
   ·repeat' first|simp only[go_sem,seval,hlm,e1]|(refine CR_pure hf (pvA_map _ _) ?_)|refine sB ?_|(first|apply pX|apply bX)<;>intro hc|refine⟨oD,?_⟩|exact oD|fail
    all_goals rfl
  ·obtain rfl:i=l.length:=by omega
   rw[List.drop_length];repeat' first|simp only[go_sem,seval,hlm]|refine sB ?_|(first|apply pX|apply bX)<;>intro hc|refine⟨oD,?_⟩|exact oD|fail
   all_goals simp[idxF]
theorem ContainsFuncL_ok (l:List (List (Bool×Bytes))) (f:FuncId) (c:List PV) (p:List (Bool×Bytes)→Bool) (hl:l.length<4611686018427387904) (h: ∀x∈l,EvP Tryz.prog f (lpv x::c) (.b (p x))):EvP Tryz.prog 111 [.sl (l.map lpv), .fc f [] c] (.b (l.any p)):=by
 have hi:=IndexFuncL_ok l f c p hl h;have e:decide (idxF p 0 l≥0)=l.any p:=by
  rw[Bool.eq_iff_iff,decide_eq_true_iff];exact idxF_neg
 refine eW Tryz.call111 Tryz.func111 ?_;repeat' first|simp only[go_sem,seval,e]|refine cP hi ?_|refine sB ?_|(first|apply pX|apply bX)<;>intro hc|refine⟨oD,?_⟩|exact oD|fail
theorem form1_ok (x:Bool×Bytes):EvP Tryz.prog 310 [ipv x] (.b (!izok x)):=by
 obtain⟨n,a⟩:=x;have hv:=iValid_ok n a;have e:izok (n,a)=(validN a&& !(n&&a==[])):=rfl;rw[e];generalize (validN a&& !(n&&a==[]))=b at*;simp only[ipv];refine eW Tryz.call310 Tryz.func310 ?_;repeat' first|simp only[go_sem,seval]|refine cP hv ?_|refine sB ?_|(first|apply pX|apply bX)<;>intro hc|refine⟨oD,?_⟩|exact oD|fail
abbrev cap1:PV:= .pt (.agg [.fn (.func 310)]) 0
theorem form2_ok (l:List (Bool×Bytes)) (hl:l.length<4611686018427387904):EvP Tryz.prog 311 [lpv l,cap1] (.b (!l.all izok)):=by
 have h1:=ContainsFuncI_ok l _ _ hl form1_ok;rw[any_not]at h1;unfold lpv;refine eW Tryz.call311 Tryz.func311 ?_;repeat' first|simp only[go_sem,seval]|refine cP h1 ?_|refine sB ?_|(first|apply pX|apply bX)<;>intro hc|refine⟨oD,?_⟩|exact oD|fail
theorem form3_ok (a:Bytes):EvP Tryz.prog 312 [.s a] (.b (!validN a)):=by
 have hv:=natValid a;generalize validN a=b at*;refine eW Tryz.call312 Tryz.func312 ?_;repeat' first|simp only[go_sem,seval]|refine cP hv ?_|refine sB ?_|(first|apply pX|apply bX)<;>intro hc|refine⟨oD,?_⟩|exact oD|fail
theorem CFN0 (f:FuncId) (c:List PV):EvP Tryz.prog 254 [.sl [], .fc f [] c] (.b false):=by
 have hi:EvP Tryz.prog 360 [.sl [], .fc f [] c] (E (-1)):=by
  refine eW Tryz.call360 Tryz.func360 ?_;repeat' first|simp only[go_sem,seval]|(refine loop_unroll' ?_)|refine sB ?_|(first|apply pX|apply bX)<;>intro hc|refine⟨oD,?_⟩|exact oD|fail
 refine eW Tryz.call254 Tryz.func254 ?_;repeat' first|simp only[go_sem,seval]|refine cP hi ?_|refine sB ?_|(first|apply pX|apply bX)<;>intro hc|refine⟨oD,?_⟩|exact oD|fail
theorem ipvRow:RowOK ipv 2:=⟨fun _=>rfl,fun x y hy=>by obtain⟨n,a⟩:=x;simp[ipv,PV.cells]at hy;rcases hy with rfl|rfl<;>rfl,fun h=>by omega,fun _ x=>rfl⟩
theorem CloneN0:EvP Tryz.prog 191 [.sl []] (.sl []):=by
 refine eW Tryz.call191 Tryz.func191 ?_;repeat' first|simp only[go_sem,seval]|refine sB ?_|(first|apply pX|apply bX)<;>intro hc|refine⟨oD,?_⟩|exact oD|fail
theorem CloneI_ok {l:List (Bool×Bytes)} (h0:l≠[]) (hl:l.length<1000000):EvP Tryz.prog 194 [.sl (l.map ipv)] (.sl (l.map ipv)):=by
 obtain⟨x,r,rfl⟩: ∃x r,l=x::r:=by cases l with
  |nil=>exact absurd rfl h0
  |cons a b=>exact⟨a,b,rfl⟩
 rw[List.map_cons];have k1:(ipv x::r.map ipv)=(x::r).map ipv:=rfl;have k0:(r.map ipv).length=r.length:=List.length_map ..;refine eW Tryz.call194 Tryz.func194 ?_;repeat' first|simp only[go_sem,seval,k0]|refine sB ?_|(first|apply pX|apply bX)<;>intro hc|refine⟨oD,?_⟩|exact oD|fail
 have hrow:List.map AV.v ((ipv x).cells++List.flatMap PV.cells (List.map ipv r))=rowF ipv (x::r):=by
  rw[rowF,List.flatMap_cons,List.flatMap_map]
 have hL:((ipv x).cells++List.flatMap PV.cells (List.map ipv r)).length=(r.length+1)*2:=by
  have:=rowF_len ipvRow (x::r);rw[←hrow,List.length_map]at this;exact this
 have q1:List.take ((r.length+1)*2) (rowF ipv (x::r))=rowF ipv (x::r):=rowF_take ipvRow (x::r);have q2:=rowF_all ipvRow (x::r);have q3:chunk 2 (r.length+1) ((x::r).flatMap fun x=>(ipv x).cells)=(x::r).map ipv:=rowF_chunk ipvRow (x::r)
 have q4: ∀y∈rowF ipv (x::r),y.one=true:=fun y hy=>List.all_eq_true.1 q2 y hy
 rw[hrow];refine⟨⟨⟨ipvRow.len x,fun y hy=>by obtain⟨z,-,rfl⟩:=List.mem_map.1 hy;exact ipvRow.len z⟩,q4,by simp at hl;omega,by simp at hl;omega⟩,?_⟩
 simp only[hL,q1,q2,q3,rowF_mapO,Nat.le_refl,and_self,if_true,Option.map_some];exact⟨trivial,rfl⟩
def X0 (c sl:Bytes) (s:Stm):PV:= .agg [.s c, .s sl, .sl (s.groups.map gpv), .sl (s.vars.map vpv), .sl (s.eqs.map Eqn.pv), .sl [], .sl [], .s []]
theorem newSetting_ok {c sl:Bytes} (hr:RuOK c sl) {s:Stm} (hs:StOK s) (h0:s.vars≠[]):EvP Tryz.prog 53 [.agg [.s c, .s sl],s.pv,C0] (.tup [X0 c sl s,E 0]):=by
 have hb:=sBounds_ok hr hs h0;obtain⟨gs,vs,es⟩:=s;simp only[Stm.pv,X0]at hb⊢;refine eW Tryz.call53 Tryz.func53 ?_;repeat' first|simp only[go_sem,seval]|refine cP hb ?_|refine cP bCheck0 ?_|refine sB ?_|(first|apply pX|apply bX)<;>intro hc|refine⟨oD,?_⟩|exact oD|fail
def formE (c:Bytes) (nv:Nat) (ch:Bytes) (rs:List (Bool×Bytes)) (gs:List Bytes) (ls:List (List (Bool×Bytes))):Int:=
 if !(validN ch&&rs.all izok&&ls.all (fun l=>l.all izok)&&gs.all validN)then 3 else if rs.length≠nv∨gs≠[]∨ls≠[]then 6 else if num c≤num ch then 2 else 0
def spv (ch:Bytes) (rs:List (Bool×Bytes)) (gs:List Bytes) (ls:List (List (Bool×Bytes))):PV:= .agg [.s ch, .sl (rs.map ipv), .sl (gs.map .s), .sl (ls.map lpv)]
theorem form_ok {c sl:Bytes} (vc:validN c=true) (s:Stm) (ch:Bytes) (rs:List (Bool×Bytes)) (gs:List Bytes) (ls:List (List (Bool×Bytes))) (h1:rs.length<1000000) (h2:gs.length≤1000) (h3:ls.length≤1000) (h4: ∀l∈ls,l.length<4611686018427387904):EvP Tryz.prog 189 [X0 c sl s,spv ch rs gs ls] (E (formE c s.vars.length ch rs gs ls)):=by
 have v1:=natValid ch;have v2:=form2_ok rs (by omega)
 have v3:=ContainsFuncL_ok ls 311 [cap1] (fun l=> !l.all izok) (by omega) fun l hl=>form2_ok l (h4 l hl)
 rw[any_not]at v3;have v4:=ContainsFuncNN_ok gs _ _ (by omega) form3_ok
 rw[any_not]at v4;have v5:=CFN0 313 [.pt (X0 c sl s) 0];obtain⟨gq,vs,es⟩:=s;unfold lpv at v2;simp only[X0,spv,formE]at v5⊢;have l1:(rs.map ipv).length=rs.length:=List.length_map ..;have l2:(vs.map vpv).length=vs.length:=List.length_map ..;have l3:(gs.map PV.s).length=gs.length:=List.length_map ..;have l4:(ls.map lpv).length=ls.length:=List.length_map ..
 by_cases hok:(validN ch&&rs.all izok&&ls.all (fun l=>l.all izok)&&gs.all validN)=true
 ·rw[hok];simp only[Bool.and_eq_true]at hok;obtain⟨⟨⟨o1,o2⟩,o3⟩,o4⟩:=hok;rw[o1]at v1;rw[o2]at v2;rw[o3]at v3;rw[o4]at v4
  by_cases hm:rs.length≠vs.length∨gs≠[]∨ls≠[]
  ·simp only[Bool.not_true,Bool.false_eq_true,if_false,if_pos hm];have hm':rs.length≠vs.length∨(rs.length=vs.length∧gs.length≠0)∨(rs.length=vs.length∧gs.length=0∧ls.length≠0):=by
    rcases hm with h|h|h
    ·exact .inl h
    ·have:gs.length≠0:=fun h0=>h (List.length_eq_zero_iff.1 h0)
     omega
    ·have:ls.length≠0:=fun h0=>h (List.length_eq_zero_iff.1 h0)
     omega
   clear hm v5 o2 o3 o4 h4;rcases hm' with h|⟨h,h'⟩|⟨h,h',h''⟩
   all_goals (
   refine eW Tryz.call189 Tryz.func189 ?_;repeat' first|simp only[go_sem,seval,viewN,l1,l2,l3,l4]|refine cP v1 ?_|refine cV v2 ?_|refine cV v3 ?_|refine cP v4 ?_|refine sB ?_|(first|apply pX|apply bX)<;>intro hc|refine⟨oD,?_⟩|exact oD|fail
   try trivial)
   all_goals fail "a"
  ·simp only[Bool.not_true,Bool.false_eq_true,if_false,if_neg hm];have hm':rs.length=vs.length∧gs=[]∧ls=[]:=by
    refine⟨Decidable.byContradiction fun h=>hm (.inl h),Decidable.byContradiction fun h=>hm (.inr (.inl h)),Decidable.byContradiction fun h=>hm (.inr (.inr h))⟩
   obtain⟨e1,e2,e3⟩:=hm';subst e2;subst e3;have cm:=cmpVV o1 vc;simp only[List.map_nil]at v3 v4;clear hm h4
   by_cases hge:num c≤num ch
   ·rw[if_pos hge];have h7: ∀ _:True,(0:Int)≤cmpN (num ch) (num c):=fun _=>cmpN_ge.2 hge
    have h5: ∀ _:True,decide (cmpN (num ch) (num c)≥0)=true:=fun _=>decide_eq_true (h7 trivial)
    generalize cmpN (num ch) (num c)=z at*;refine eW Tryz.call189 Tryz.func189 ?_;repeat' first|simp only[go_sem,seval,viewN,l1,l2,h5 trivial]|refine cP v1 ?_|refine cV v2 ?_|refine cV v3 ?_|refine cP v4 ?_|refine cP cm ?_|(refine loop_unroll' ?_)|refine sB ?_|(first|apply pX|apply bX)<;>intro hc|refine⟨oD,?_⟩|exact oD|fail
   ·rw[if_neg hge];have h7: ∀ _:True,¬(0:Int)≤cmpN (num ch) (num c):=fun _ h=>hge (cmpN_ge.1 h)
    have h5: ∀ _:True,decide (cmpN (num ch) (num c)≥0)=false:=fun _=>decide_eq_false (h7 trivial)
    generalize cmpN (num ch) (num c)=z at*;refine eW Tryz.call189 Tryz.func189 ?_;repeat' first|simp only[go_sem,seval,viewN,l1,l2,h5 trivial]|refine cP v1 ?_|refine cV v2 ?_|refine cV v3 ?_|refine cP v4 ?_|refine cP cm ?_|refine cV v5 ?_|(refine loop_unroll' ?_)|refine sB ?_|(first|apply pX|apply bX)<;>intro hc|refine⟨oD,?_⟩|exact oD|fail
 ·have hf:(validN ch&&rs.all izok&&ls.all (fun l=>l.all izok)&&gs.all validN)=false:=by simpa using hok
  rw[hf];simp only[Bool.not_false,if_true];clear hok v5 h4;generalize validN ch=b1 at*;generalize rs.all izok=b2 at*;generalize (ls.all fun l=>l.all izok)=b3 at*
  generalize gs.all validN=b4 at*;cases b1
  ·refine eW Tryz.call189 Tryz.func189 ?_;repeat' first|simp only[go_sem,seval,viewN,l1,l2,l3,l4]|refine cP v1 ?_|refine cV v2 ?_|refine cV v3 ?_|refine cP v4 ?_|refine sB ?_|(first|apply pX|apply bX)<;>intro hc|refine⟨oD,?_⟩|exact oD|fail
  ·cases b2
   ·refine eW Tryz.call189 Tryz.func189 ?_;repeat' first|simp only[go_sem,seval,viewN,l1,l2,l3,l4]|refine cP v1 ?_|refine cV v2 ?_|refine cV v3 ?_|refine cP v4 ?_|refine sB ?_|(first|apply pX|apply bX)<;>intro hc|refine⟨oD,?_⟩|exact oD|fail
   ·cases b3
    ·refine eW Tryz.call189 Tryz.func189 ?_;repeat' first|simp only[go_sem,seval,viewN,l1,l2,l3,l4]|refine cP v1 ?_|refine cV v2 ?_|refine cV v3 ?_|refine cP v4 ?_|refine sB ?_|(first|apply pX|apply bX)<;>intro hc|refine⟨oD,?_⟩|exact oD|fail
    ·cases b4
     ·refine eW Tryz.call189 Tryz.func189 ?_;repeat' first|simp only[go_sem,seval,viewN,l1,l2,l3,l4]|refine cP v1 ?_|refine cV v2 ?_|refine cV v3 ?_|refine cP v4 ?_|refine sB ?_|(first|apply pX|apply bX)<;>intro hc|refine⟨oD,?_⟩|exact oD|fail
     ·exact absurd hf (by simp)
abbrev PZ0:PV:= .agg [.sl [], .s [], .sl []]
abbrev B0:PV:= .agg [.sl [], .sl []]
theorem open_bad1 {c sl:Bytes} (hr:RuOK c sl) {s:Stm} {ch:Bytes} {rs:List (Bool×Bytes)} {gs:List Bytes} {ls:List (List (Bool×Bytes))} (h1:rs.length<1000000) (h2:gs.length≤1000) (h3:ls.length≤1000) (h4: ∀l∈ls,l.length<4611686018427387904) (hf:formE c s.vars.length ch rs gs ls≠0):
  EvP Tryz.prog 78 [X0 c sl s,spv ch rs gs ls] (.tup [PZ0,B0,E (formE c s.vars.length ch rs gs ls)]):=by
 have hfo:=form_ok (c:=c) (sl:=sl) hr.vc s ch rs gs ls h1 h2 h3 h4;have hb:(formE c s.vars.length ch rs gs ls==0)=false:=by simpa using hf
 generalize formE c s.vars.length ch rs gs ls=e at*;obtain⟨gq,vs,es⟩:=s;simp only[X0,spv]at hfo⊢;refine eW Tryz.call78 Tryz.func78 ?_;repeat' first|simp only[go_sem,seval,hb]|refine cP hfo ?_|refine sB ?_|(first|apply pX|apply bX)<;>intro hc|refine⟨oD,?_⟩|exact oD|fail
 all_goals skip
theorem open_bad2 {c sl:Bytes} (hr:RuOK c sl) {s:Stm} (hs:StOK s) (h0:s.vars≠[]) (h00:s.eqs≠[]) {ch:Bytes} {rs:List (Bool×Bytes)} (h1:rs.length<1000000) (hf:formE c s.vars.length ch rs [] []=0) (hi:firE c sl s.vars ch rs≠0):
  EvP Tryz.prog 78 [X0 c sl s,spv ch rs [] []] (.tup [PZ0,B0,E (firE c sl s.vars ch rs)]):=by
 have hfo:=form_ok (c:=c) (sl:=sl) hr.vc s ch rs [] [] h1 (by simp) (by simp) (by simp)
 rw[hf]at hfo;have hfi:=sFirst_ok hr hs h0 h00 (ch:=ch) (l:=rs) h1;have hl:firL c sl s ch rs=[]:=by unfold firL;rw[if_neg hi]
 rw[hl]at hfi;have hb:(firE c sl s.vars ch rs==0)=false:=by simpa using hi
 generalize firE c sl s.vars ch rs=e at*;obtain⟨gq,vs,es⟩:=s;simp only[X0,spv,Stm.pv]at hfo hfi⊢;refine eW Tryz.call78 Tryz.func78 ?_;repeat' first|simp only[go_sem,seval,hb]|refine cP hfo ?_|refine cP hfi ?_|refine sB ?_|(first|apply pX|apply bX)<;>intro hc|refine⟨oD,?_⟩|exact oD|fail
 all_goals skip
theorem open_good {c sl:Bytes} (hr:RuOK c sl) {s:Stm} (hs:StOK s) (h0:s.vars≠[]) (h00:s.eqs≠[]) {ch:Bytes} {rs:List (Bool×Bytes)} (h1:rs.length<1000000) (hf:formE c s.vars.length ch rs [] []=0) (hi:firE c sl s.vars ch rs=0):
  EvP Tryz.prog 78 [X0 c sl s,spv ch rs [] []] (.tup [.agg [.sl (s.eqs.map fun q=>N (msgQ s.groups ch rs q)), .s ch, .sl (rs.map ipv)],B0,E 0]):=by
 have hfo:=form_ok (c:=c) (sl:=sl) hr.vc s ch rs [] [] h1 (by simp) (by simp) (by simp)
 rw[hf]at hfo;have hfi:=sFirst_ok hr hs h0 h00 (ch:=ch) (l:=rs) h1;have hl:firL c sl s ch rs=s.eqs.map fun q=>N (msgQ s.groups ch rs q):=by unfold firL;rw[if_pos hi]
 rw[hl,hi]at hfi;have hrs:rs≠[]:=by
  intro h;subst h;unfold formE at hf;have hv:([]:List (Bool×Bytes)).length≠s.vars.length:=by
   intro h;exact h0 (List.length_eq_zero_iff.1 h.symm)
  split at hf
  ·exact absurd hf (by decide)
  ·rw[if_pos (.inl hv)]at hf;exact absurd hf (by decide)
 have hcl:=CloneI_ok hrs h1;have hcn:=CloneN0;generalize (s.eqs.map fun q=>N (msgQ s.groups ch rs q))=fl at*
 obtain⟨gq,vs,es⟩:=s;simp only[X0,spv,Stm.pv,List.map_nil]at hfo hfi⊢;refine eW Tryz.call78 Tryz.func78 ?_;repeat' first|simp only[go_sem,seval]|refine cP hfo ?_|refine cP hfi ?_|refine cP hcl ?_|refine cP hcn ?_|(refine loop_unroll' ?_)|refine sB ?_|(first|apply pX|apply bX)<;>intro hc|refine⟨oD,?_⟩|exact oD|fail
abbrev sDom:Bytes:=[100,111,109,105,110,111,32,112,114,111,111,102]
abbrev sCtx:Bytes:=[99,111,110,116,101,120,116]
abbrev sFor:Bytes:=[102,111,114,109,117,108,97]
abbrev sFst:Bytes:=[102,105,114,115,116]
def fsS (ctx:Bytes) (s:Stm) (fs:List Bytes):Bytes:=trNats (trAdd (bindS (trAdd (trNew sDom) sCtx ctx) s) sFor []) sFst fs
theorem bindS_len {st:Bytes} {s:Stm} (hs:BdS s):(bindS st s).length=32:=by
 unfold bindS;exact bindF_len (trNats_len _ _ _) fun q hq=>by obtain⟨-,-,-,t,ht,-⟩:=hs.q q hq;exact⟨t,ht⟩
theorem challenge_ok {c sl:Bytes} (hr:RuOK c sl) {s:Stm} (hb:BdS s) {ctx:Bytes} (hx:ctx.length≤100000) {fs:List Bytes} (f0:fs≠[]) (fn:fs.length≤900) (fl: ∀x∈fs,x.length≤100000):
  EvP Tryz.prog 57 [X0 c sl s, .s ctx, .sl (fs.map .s), .sl []] (.tup [N (trChal (fsS ctx s fs) c),E 0]):=by
 have c0:c≠[]:=by
  intro h;have:=hr.c2;rw[h]at this;exact absurd this (by decide)
 have n1:=tNew_ok sDom (by decide)
 have n2:=tAdd_ok (trNew sDom) sCtx ctx (by rw[trNew_len];decide) (by decide) hx
 have n3:=Bind_ok (st:=trAdd (trNew sDom) sCtx ctx) (by rw[trAdd_len];decide) hb
 have n4:=tAdd_ok (bindS (trAdd (trNew sDom) sCtx ctx) s) sFor [] (by rw[bindS_len hb];decide) (by decide) (by decide)
 have n5:=tNats_ok (trAdd (bindS (trAdd (trNew sDom) sCtx ctx) s) sFor []) sFst fs (by rw[trAdd_len];decide) (by decide) f0 fn fl
 have n6:=tChallenge_ok (fsS ctx s fs) c (by rw[fsS,trNats_len];decide) hr.vc c0 hr.lc
 have n5:EvP Tryz.prog 131 [.s (trAdd (bindS (trAdd (trNew sDom) sCtx ctx) s) sFor []), .s sFst, .sl (fs.map .s)] (.s (fsS ctx s fs)):=n5;generalize fsS ctx s fs=st5 at*;generalize bindS (trAdd (trNew sDom) sCtx ctx) s=st3 at*;obtain⟨gq,vs,es⟩:=s;simp only[X0,Stm.pv]at n3⊢;refine eW Tryz.call57 Tryz.func57 ?_;repeat' first|simp only[go_sem,seval]|refine cP n1 ?_|refine cP n2 ?_|refine cP n3 ?_|refine cP n4 ?_|refine cP n5 ?_|refine cP n6 ?_|refine cP fText0 ?_|(refine loop_unroll' ?_)|refine sB ?_|(first|apply pX|apply bX)<;>intro hc|refine⟨oD,?_⟩|exact oD|fail
theorem accepts_ok {c sl:Bytes} (s:Stm) (x:PV) (n:Bytes):EvP Tryz.prog 79 [X0 c sl s,B0, .s n] (.b true):=by
 obtain⟨gq,vs,es⟩:=s;simp only[X0];refine eW Tryz.call79 Tryz.func79 ?_;repeat' first|simp only[go_sem,seval]|refine sB ?_|(first|apply pX|apply bX)<;>intro hc|refine⟨oD,?_⟩|exact oD|fail
noncomputable def fmsg (s:Stm) (ch:Bytes) (rs:List (Bool×Bytes)):List Bytes:=s.eqs.map fun q=>bts (msgQ s.groups ch rs q)
noncomputable def vfyE (c sl ctx:Bytes) (s:Stm) (ch:Bytes) (rs:List (Bool×Bytes)) (gs:List Bytes) (ls:List (List (Bool×Bytes))):Int:=
 if formE c s.vars.length ch rs gs ls≠0 then formE c s.vars.length ch rs gs ls else if firE c sl s.vars ch rs≠0 then firE c sl s.vars ch rs else if bts (trChal (fsS ctx s (fmsg s ch rs)) c)=ch then 0 else 16
theorem formE_nil {c:Bytes} {nv:Nat} {ch:Bytes} {rs:List (Bool×Bytes)} {gs:List Bytes} {ls:List (List (Bool×Bytes))} (h:formE c nv ch rs gs ls=0):gs=[]∧ls=[]:=by
 unfold formE at h
 split at h
 ·exact absurd h (by decide)
 ·split at h
  ·exact absurd h (by decide)
  ·rename_i hm;exact⟨Decidable.byContradiction fun h=>hm (.inr (.inl h)),Decidable.byContradiction fun h=>hm (.inr (.inr h))⟩
theorem fVerify_ok {c sl:Bytes} (hr:RuOK c sl) {s:Stm} (hs:StOK s) (hb:BdS s) (h00:s.eqs≠[]) (hm: ∀ch rs,∀x∈fmsg s ch rs,x.length≤100000) {ctx:Bytes} (hx:ctx.length≤100000) {ch:Bytes} {rs:List (Bool×Bytes)} {gs:List Bytes} {ls:List (List (Bool×Bytes))} (h1:rs.length<1000000) (h2:gs.length≤1000) (h3:ls.length≤1000) (h4: ∀l∈ls,l.length<4611686018427387904):
  EvP Tryz.prog 29 [.agg [.s c, .s sl], .s ctx,s.pv,C0,spv ch rs gs ls] (E (vfyE c sl ctx s ch rs gs ls)):=by
 have hn:=newSetting_ok hr hs hb.v0;unfold vfyE
 by_cases hf:formE c s.vars.length ch rs gs ls=0
 ·obtain⟨rfl,rfl⟩:=formE_nil hf;rw[if_neg (by simpa using hf)]
  by_cases hi:firE c sl s.vars ch rs=0
  ·rw[if_neg (by simpa using hi)]
   have ho:=open_good hr hs hb.v0 h00 h1 hf hi;have hmap:(s.eqs.map fun q=>N (msgQ s.groups ch rs q))=(fmsg s ch rs).map .s:=by unfold fmsg;rw[List.map_map];rfl
   rw[hmap]at ho;have f0:fmsg s ch rs≠[]:=by unfold fmsg;simpa using h00
   have fl:=hm ch rs;have fn:(fmsg s ch rs).length≤900:=by unfold fmsg;rw[List.length_map];have:=hs.ne;omega
   generalize fmsg s ch rs=fs at*;have hc:=challenge_ok hr hb hx f0 fn fl;have ha:=accepts_ok (c:=c) (sl:=sl) s B0 (bts (trChal (fsS ctx s fs) c));generalize trChal (fsS ctx s fs) c=z at*;obtain⟨gq,vs,es⟩:=s;simp only[X0,spv,Stm.pv,List.map_nil]at hn ho hc ha⊢;clear hr hs hb hm h2 h3 h4 hf hi hmap
   by_cases hz:bts z=ch
   ·rw[if_pos hz];have hz1:(bts z==ch)=true:=by simpa using hz
    refine eW Tryz.call29 Tryz.func29 ?_;repeat' first|simp only[go_sem,seval,hz1]|refine cP hn ?_|refine cP ho ?_|refine cP hc ?_|refine cP ha ?_|(refine loop_unroll' ?_)|refine sB ?_|(first|apply pX|apply bX)<;>intro hc|refine⟨oD,?_⟩|exact oD|fail
   ·rw[if_neg hz];have hz1:(bts z==ch)=false:=by simpa using hz
    refine eW Tryz.call29 Tryz.func29 ?_;repeat' first|simp only[go_sem,seval,hz1]|refine cP hn ?_|refine cP ho ?_|refine cP hc ?_|refine cP ha ?_|(refine loop_unroll' ?_)|refine sB ?_|(first|apply pX|apply bX)<;>intro hc|refine⟨oD,?_⟩|exact oD|fail
  ·rw[if_pos hi];have ho:=open_bad2 hr hs hb.v0 h00 h1 hf hi;have hb:(firE c sl s.vars ch rs==0)=false:=by simpa using hi
   generalize firE c sl s.vars ch rs=e at*;obtain⟨gq,vs,es⟩:=s;simp only[X0,spv,Stm.pv,List.map_nil]at hn ho⊢;refine eW Tryz.call29 Tryz.func29 ?_;repeat' first|simp only[go_sem,seval,hb]|refine cP hn ?_|refine cP ho ?_|refine sB ?_|(first|apply pX|apply bX)<;>intro hc|refine⟨oD,?_⟩|exact oD|fail
 ·rw[if_pos hf];have ho:=open_bad1 hr h1 h2 h3 h4 hf (sl:=sl);have hb:(formE c s.vars.length ch rs gs ls==0)=false:=by simpa using hf
  generalize formE c s.vars.length ch rs gs ls=e at*;obtain⟨gq,vs,es⟩:=s;simp only[X0,spv,Stm.pv]at hn ho⊢;refine eW Tryz.call29 Tryz.func29 ?_;repeat' first|simp only[go_sem,seval,hb]|refine cP hn ?_|refine cP ho ?_|refine sB ?_|(first|apply pX|apply bX)<;>intro hc|refine⟨oD,?_⟩|exact oD|fail
end Go.Proofs.YtmledjfbgjnknaaGreatDoor
namespace Go.Proofs.YtmledjfbgjnknaaGreatDoor
open Go Go.Dom Go.Num
set_option maxRecDepth 100000
def signO (vs:List Bytes) (sd:Bytes) (i M:Nat):Except Int Int:=
 match drawO vs sd i (bts (2*M-1))with
 | .error e=> .error e
 | .ok x=> .ok ((num x:Int)-(M-1:Nat))
def maskG (vs:List Bytes) (sd:Bytes):List Nat→Nat→List Int→Except Int (List Int)
 |[],_,acc=> .ok acc
 |M::Ms,i,acc=>match signO vs sd i M with
  | .error e=> .error e
  | .ok z=>maskG vs sd Ms (i+1) (acc++[z])
def respZ (ms w:List Int) (c:Nat):List Int:=List.zipWith (fun a x=>a+c*x) ms w
def inR (c sl:Bytes) (vars:List Bytes) (rs:List Int):Bool:=(List.range vars.length).all fun i=>decide ((rs.getD i 0).natAbs<limR c sl (vars.getD i []))
noncomputable def tryG (c sl ctx:Bytes) (s:Stm) (w:List Int) (vs:List Bytes) (sd:Bytes):Nat→Nat→Except Int (Bytes×List Int×Nat)
 |0,_=> .error 15
 |k+1,i=>match maskG vs sd (s.vars.map (limM c sl)) i []with
  | .error e=> .error e
  | .ok ms=>
   let ch:=trChal (fsS ctx s (imgL s (ms.map ipz))) c
   if inR c sl s.vars (respZ ms w ch)then .ok (bts ch,respZ ms w ch,i+s.vars.length)else tryG c sl ctx s w vs sd k (i+s.vars.length)
theorem maskG_len (vs:List Bytes) (sd:Bytes): ∀(Ms:List Nat) (i:Nat) (acc l:List Int),maskG vs sd Ms i acc= .ok l→l.length=acc.length+Ms.length:=by
 intro Ms
 induction Ms with
 |nil=>intro i acc l h;injection h with h;rw[←h];rfl
 |cons M Ms ih=>
  intro i acc l h;rw[maskG]at h
  split at h
  ·cases h
  ·have:=ih _ _ _ h;simp at this⊢;omega
theorem tryG_ok {c sl ctx:Bytes} {s:Stm} {w:List Int} {vs:List Bytes} {sd:Bytes}: ∀{k i:Nat} {ch:Bytes} {rs:List Int} {j:Nat},tryG c sl ctx s w vs sd k i= .ok (ch,rs,j)→ ∃ms:List Int,ms.length=s.vars.length∧ch=bts (trChal (fsS ctx s (imgL s (ms.map ipz))) c)∧rs=respZ ms w (trChal (fsS ctx s (imgL s (ms.map ipz))) c)∧inR c sl s.vars rs=true:=by
 intro k
 induction k with
 |zero=>intro i ch rs j h;cases h
 |succ k ih=>
  intro i ch rs j h;rw[tryG]at h
  split at h
  ·cases h
  ·rename_i ms hms;simp only at h
   split at h
   ·rename_i hin;injection h with h
    injection h with h1 h2
    injection h2 with h2 h3
    subst h1 h2;exact⟨ms,by rw[maskG_len _ _ _ _ _ _ hms];simp,rfl,rfl,hin⟩
   ·exact ih h
theorem getD_ipz (l:List Int) (i:Nat) (h:i<l.length):(l.map ipz).getD i d0I=ipz (l.getD i 0):=by
 simp[List.getD_eq_getElem?_getD,h]
theorem getD_resp {ms w:List Int} {c i:Nat} (h1:i<ms.length) (h2:i<w.length):(respZ ms w c).getD i 0=ms.getD i 0+c*w.getD i 0:=by
 simp[respZ,List.getD_eq_getElem?_getD,List.getElem?_zipWith,h1,h2]
theorem trChal_lt (st:Bytes) {c:Bytes} (h:2≤num c):trChal st c<num c:=Nat.mod_lt _ (by omega)
theorem seek_ok {f:Nat→Bytes} {n:Nat} {x:Bytes}: ∀{k a:Nat},seek f n a k=some x→num x<n∧ ∃b,x=f b:=by
 intro k
 induction k with
 |zero=>intro a h;cases h
 |succ k ih=>
  intro a h;rw[seek]at h
  split at h
  ·rename_i hlt;injection h with h
   subst h;exact⟨hlt,a,rfl⟩
  ·exact ih h
theorem drawO_ok {vs:List Bytes} {sd:Bytes} {i:Nat} {n x:Bytes} (hv:vs.all validN=true) (hn:validN n=true) (hl:vs.length<1000000) (hi:i≤2147483647) (h:drawO vs sd i n= .ok x):validN x=true∧num x<num n∧i+1≤2147483647:=by
 unfold drawO at h
 split at h
 ·rename_i hiv
  split at h
  ·cases h
  ·rename_i hlt;injection h with h
   subst h;exact⟨List.all_eq_true.1 hv _ (getD_mem hiv),by omega,by omega⟩
 ·split at h
  ·cases h
  ·rename_i hs;have hi2:i≠2147483647:=fun e=>hs (.inr e)
   split at h
   ·rename_i y hy;injection h with h
    subst h;obtain⟨h1,b,hb⟩:=seek_ok hy;exact⟨by rw[hb];exact attB_valid sd i b (blenV_le hn),h1,by omega⟩
   ·cases h
theorem signO_ok {vs:List Bytes} {sd:Bytes} {i M:Nat} {z:Int} (hv:vs.all validN=true) (h1:1≤M) (h2:2*M<LIM) (hl:vs.length<1000000) (hi:i≤2147483647) (h:signO vs sd i M= .ok z):z.natAbs<M∧i+1≤2147483647:=by
 unfold signO at h
 split at h
 ·cases h
 ·rename_i x hx;obtain⟨-,h3,h4⟩:=drawO_ok hv (vB (by omega)) hl hi hx
  rw[num_bts]at h3;injection h with h
  subst h;exact⟨by omega,h4⟩
theorem maskG_ok {vs:List Bytes} {sd:Bytes} (hv:vs.all validN=true) (hl:vs.length<1000000): ∀(Ms:List Nat) (i:Nat) (acc l:List Int),(∀M∈Ms,1≤M∧2*M<LIM)→i≤2147483647→maskG vs sd Ms i acc= .ok l→ ∃r,l=acc++r∧r.length=Ms.length∧(∀j,j<Ms.length→(r.getD j 0).natAbs<Ms.getD j 0)∧i+Ms.length≤2147483647:=by
 intro Ms
 induction Ms with
 |nil=>intro i acc l _ hi h;injection h with h;exact⟨[],by simp[h],rfl,(fun j hj=>(Nat.not_lt_zero _ hj).elim),hi⟩
 |cons M Ms ih=>
  intro i acc l hM hi h;rw[maskG]at h
  split at h
  ·cases h
  ·rename_i z hz;obtain⟨h1,h2⟩:=hM M (.head _);obtain⟨h3,h4⟩:=signO_ok hv h1 h2 hl hi hz;obtain⟨r,h5,h6,h7,h8⟩:=ih _ _ _ (fun M' hm=>hM M' (.tail _ hm)) h4 h
   refine⟨z::r,by rw[h5];simp,by simp[h6],?_,by simp;omega⟩
   intro j hj
   cases j with
   |zero=>exact h3
   |succ j=>exact h7 j (by simpa using hj)
theorem drawO_err {vs:List Bytes} {sd:Bytes} {i:Nat} {n:Bytes} {e:Int} (h:drawO vs sd i n= .error e):e=2∨e=14:=by
 unfold drawO at h
 split at h
 ·split at h
  ·injection h with h;exact .inl h.symm
  ·cases h
 ·split at h
  ·injection h with h;exact .inr h.symm
  ·split at h
   ·cases h
   ·injection h with h;exact .inr h.symm
theorem signO_err {vs:List Bytes} {sd:Bytes} {i M:Nat} {e:Int} (h:signO vs sd i M= .error e):e=2∨e=14:=by
 unfold signO at h
 split at h
 ·rename_i e' he;injection h with h
  subst h;exact drawO_err he
 ·cases h
theorem maskG_err {vs:List Bytes} {sd:Bytes} {e:Int}: ∀{Ms:List Nat} {i:Nat} {acc:List Int},maskG vs sd Ms i acc= .error e→e=2∨e=14:=by
 intro Ms
 induction Ms with
 |nil=>intro i acc h;cases h
 |cons M Ms ih=>
  intro i acc h;rw[maskG]at h
  split at h
  ·rename_i e' he;injection h with h
   subst h;exact signO_err he
  ·exact ih h
theorem izok_ipz {z:Int} (h:z.natAbs<LIM):izok (ipz z)=true:=zval h
theorem ipz_nat {x:Bytes} (h:validN x=true):ipz (num x:Int)=(false,x):=by
 have e:bts (num x)=x:=by have:=N_of h;injection this
 simp[ipz,zs,zb,e]
end Go.Proofs.YtmledjfbgjnknaaGreatDoor
namespace Go.Proofs.YtmledjfbgjnknaaGreatDoor
open Go Go.Dom Go.Num
set_option maxRecDepth 100000
set_option maxHeartbeats 16000000
def signP (vs:List Bytes) (sd:Bytes) (i:Nat):Except Int Int→PV
 | .ok z=> .tup [Z z,T vs sd (i+1:Nat),E 0]
 | .error e=> .tup [.agg [.b false, .s []],T [] [] 0,E e]
theorem Signed_ok {vs:List Bytes} {sd:Bytes} {i M:Nat} (hv:vs.all validN=true) (hi:i≤2147483647) (hl:vs.length<1000000) (hsd:sd.length<1000000) (h1:1≤M) (h2:3*M<LIM):EvP Tryz.prog 231 [T vs sd i,N M] (signP vs sd i (signO vs sd i M)):=by
 have hM:bts M≠[]:=by rw[ne_eq,bts_nil];omega
 have hN:validN (bts (2*M-1))=true:=vB (by omega)
 have hr:=ready_ok vs sd i (bts M) (by omega)
 rw[readyG hv (vB (by omega)) hM hi]at hr
 have ha:=addN (a:=M) (b:=M) (by omega)
 have hs:=subN (a:=M) (b:=1) (by omega) (by omega)
 have ho:=subN (a:=M+M) (b:=1) (by omega) (by omega)
 have hd:=drawG_ok (sd:=sd) hv hN (by rw[num_bts];omega) hi hl hsd
 rw[←one_eq]at hs ho;rw[show M+M-1=2*M-1 by omega]at ho
 unfold signO;generalize hD:drawO vs sd i (bts (2*M-1))=r at*
 cases r with
 |error e=>
  unfold drawP at hd;unfold signP;rcases drawO_err hD with rfl|rfl
  ·refine eW Tryz.call231 Tryz.func231 ?_;repeat' first|simp only[go_sem,seval]|refine cP hr ?_|refine cP ha ?_|refine cP hs ?_|refine cP ho ?_|refine cP hd ?_|refine sB ?_|(first|apply pX|apply bX)<;>intro hc|refine⟨oD,?_⟩|exact oD|fail
   all_goals rfl
  ·refine eW Tryz.call231 Tryz.func231 ?_;repeat' first|simp only[go_sem,seval]|refine cP hr ?_|refine cP ha ?_|refine cP hs ?_|refine cP ho ?_|refine cP hd ?_|refine sB ?_|(first|apply pX|apply bX)<;>intro hc|refine⟨oD,?_⟩|exact oD|fail
   all_goals rfl
 |ok x=>
  obtain⟨vx,hx,-⟩:=drawO_ok hv hN hl hi hD;rw[num_bts]at hx;have hz:=iSubL (x:=(num x:Int)) (y:=((M-1:Nat):Int)) (by omega)
  have e1:Z (num x:Int)= .agg [.b false, .s x]:=by rw[←ipv_ipz,ipz_nat vx];rfl
  have e2:Z ((M-1:Nat):Int)= .agg [.b false,N (M-1)]:=rfl;rw[e1,e2]at hz;unfold drawP at hd;unfold signP;simp only;refine eW Tryz.call231 Tryz.func231 ?_;repeat' first|simp only[go_sem,seval]|refine cP hr ?_|refine cP ha ?_|refine cP hs ?_|refine cP ho ?_|refine cP hd ?_|refine cP hz ?_|refine sB ?_|(first|apply pX|apply bX)<;>intro hc|refine⟨oD,?_⟩|exact oD|fail
  all_goals rfl
end Go.Proofs.YtmledjfbgjnknaaGreatDoor
