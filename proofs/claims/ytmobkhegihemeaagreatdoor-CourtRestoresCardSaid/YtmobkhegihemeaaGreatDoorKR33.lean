/-
  Part of the proof, part KR33. Own work.
-/
import Derived.Test.YtmobkhegihemeaaGreatDoorKR30
import Derived.WideLaws
import Derived.Tactics
import Derived.Tactics2
set_option linter.all false
namespace Go.Proofs.YtmobkhegihemeaaGreatDoor
open Go Go.Dom
set_option maxRecDepth 100000
set_option maxHeartbeats 16000000
def A1 (l:List (Bool×Bytes)):PV:= .sl (l.map cu)
theorem pw (l:List (Bytes)) (f:FuncId) (p:Bytes→Bool) (hl:l.length<4611686018427387904) (h: ∀x,aB Tryz.prog f [PV.s x] (.b (p x))):aB Tryz.prog 312 [.sl (l.map PV.s), .fn (.func f)] (E (bU p 0 l)):=by
 have hlm:(l.map PV.s).length=l.length:=List.length_map ..;refine eW Tryz.call312 Tryz.func312 ?_;repeat' first|simp only[go_sem,seval,hlm]|refine sB ?_|(first|apply pX|apply bX)<;>intro hc|refine⟨oD,?_⟩|exact oD|fail
 refine aj (α:=Nat) (fun i=>l.length-i) (fun i=>⟨[(0, .v (.sl (l.map PV.s))),(1, .v (.fn (.func f))),(7, .v (.i .i64 l.length)),(8, .v (.i .i64 (i:Nat)))],[],_⟩) (fun i=>i≤l.length∧bU p i (l.drop i)=bU p 0 l) 0 (fun _=>Nat.le_refl _) ⟨Nat.zero_le _,rfl⟩ ?_ ?_
 ·exact lE
 ·rintro i ⟨hi,hx⟩ R hR;rw[←hx]
  by_cases hlt:i<l.length
  ·have e1:=getD_map PV.s l [] hlt;have hf:=h (l.getD i []);have hgo:=hR (i+1);rw[←hx,aJ [] hlt]at hgo;rw[aJ [] hlt];simp only[bU]at hgo⊢;clear hx hR h;generalize p (l.getD i [])=b at*;generalize l.getD i []=x at*;cases b
   ·have hgo:=hgo ⟨by omega,rfl⟩ (by omega)
    repeat' first|simp only[go_sem,seval,hlm,e1]|refine cP hf ?_|refine sB ?_|(first|apply pX|apply bX)<;>intro hc|refine⟨oD,?_⟩|exact oD|fail
    refine hgo _ ?_;exact lE
   ·repeat' first|simp only[go_sem,seval,hlm,e1]|refine cP hf ?_|refine sB ?_|(first|apply pX|apply bX)<;>intro hc|refine⟨oD,?_⟩|exact oD|fail
    all_goals rfl
  ·obtain rfl:i=l.length:=by omega
   rw[List.drop_length];repeat' first|simp only[go_sem,seval,hlm]|refine sB ?_|(first|apply pX|apply bX)<;>intro hc|refine⟨oD,?_⟩|exact oD|fail
   all_goals simp[bU]
theorem ik (l:List (Bytes)) (f:FuncId) (p:Bytes→Bool) (hl:l.length<4611686018427387904) (h: ∀x,aB Tryz.prog f [PV.s x] (.b (p x))):aB Tryz.prog 245 [.sl (l.map PV.s), .fn (.func f)] (.b (l.any p)):=by
 have hi:=pw l f p hl h;have e:decide (bU p 0 l≥0)=l.any p:=by
  rw[Bool.eq_iff_iff,decide_eq_true_iff];exact ek
 refine eW Tryz.call245 Tryz.func245 ?_;repeat' first|simp only[go_sem,seval,e]|refine cP hi ?_|refine sB ?_|(first|apply pX|apply bX)<;>intro hc|refine⟨oD,?_⟩|exact oD|fail
theorem rz (l:List (List (Bool×Bytes))) (f:FuncId) (c:List PV) (p:List (Bool×Bytes)→Bool) (hl:l.length<4611686018427387904) (h: ∀x∈l,aB Tryz.prog f (A1 x::c) (.b (p x))):aB Tryz.prog 252 [.sl (l.map A1), .fc f [] c] (E (bU p 0 l)):=by
 have hlm:(l.map A1).length=l.length:=List.length_map ..;refine eW Tryz.call252 Tryz.func252 ?_;repeat' first|simp only[go_sem,seval,hlm]|refine sB ?_|(first|apply pX|apply bX)<;>intro hc|refine⟨oD,?_⟩|exact oD|fail
 refine aj (α:=Nat) (fun i=>l.length-i) (fun i=>⟨[(0, .v (.sl (l.map A1))),(1, .v (.fc f [] c)),(7, .v (.i .i64 l.length)),(8, .v (.i .i64 (i:Nat)))],[],_⟩) (fun i=>i≤l.length∧bU p i (l.drop i)=bU p 0 l) 0 (fun _=>Nat.le_refl _) ⟨Nat.zero_le _,rfl⟩ ?_ ?_
 ·exact lE
 ·rintro i ⟨hi,hx⟩ R hR;rw[←hx]
  by_cases hlt:i<l.length
  ·have e1:=getD_map A1 l [] hlt;have hf:=h (l.getD i []) (au [] hlt);have hgo:=hR (i+1);rw[←hx,aJ [] hlt]at hgo;rw[aJ [] hlt];simp only[bU]at hgo⊢;clear hx hR h;generalize p (l.getD i [])=b at*;generalize l.getD i []=x at*;simp only[A1]at e1 hf;cases b
   ·have hgo:=hgo ⟨by omega,rfl⟩ (by omega)
    repeat' first|simp only[go_sem,seval,hlm,e1]|(refine cW hf (iK _ _) ?_)|refine sB ?_|(first|apply pX|apply bX)<;>intro hc|refine⟨oD,?_⟩|exact oD|fail
    refine hgo _ ?_;exact lE
   ·repeat' first|simp only[go_sem,seval,hlm,e1]|(refine cW hf (iK _ _) ?_)|refine sB ?_|(first|apply pX|apply bX)<;>intro hc|refine⟨oD,?_⟩|exact oD|fail
    all_goals rfl
  ·obtain rfl:i=l.length:=by omega
   rw[List.drop_length];repeat' first|simp only[go_sem,seval,hlm]|refine sB ?_|(first|apply pX|apply bX)<;>intro hc|refine⟨oD,?_⟩|exact oD|fail
   all_goals simp[bU]
theorem iV (l:List (List (Bool×Bytes))) (f:FuncId) (c:List PV) (p:List (Bool×Bytes)→Bool) (hl:l.length<4611686018427387904) (h: ∀x∈l,aB Tryz.prog f (A1 x::c) (.b (p x))):aB Tryz.prog 173 [.sl (l.map A1), .fc f [] c] (.b (l.any p)):=by
 have hi:=rz l f c p hl h;have e:decide (bU p 0 l≥0)=l.any p:=by
  rw[Bool.eq_iff_iff,decide_eq_true_iff];exact ek
 refine eW Tryz.call173 Tryz.func173 ?_;repeat' first|simp only[go_sem,seval,e]|refine cP hi ?_|refine sB ?_|(first|apply pX|apply bX)<;>intro hc|refine⟨oD,?_⟩|exact oD|fail
theorem EL (x:Bool×Bytes):aB Tryz.prog 344 [cu x] (.b (!bH x)):=by
 obtain⟨n,a⟩:=x;have hv:=dJ n a;have e:bH (n,a)=(aa a&& !(n&&a==[])):=rfl;rw[e];generalize (aa a&& !(n&&a==[]))=b at*;simp only[cu];refine eW Tryz.call344 Tryz.func344 ?_;repeat' first|simp only[go_sem,seval]|refine cP hv ?_|refine sB ?_|(first|apply pX|apply bX)<;>intro hc|refine⟨oD,?_⟩|exact oD|fail
abbrev Oz:PV:= .pt (.agg [.fn (.func 344)]) 0
theorem wF (l:List (Bool×Bytes)) (hl:l.length<4611686018427387904):aB Tryz.prog 345 [A1 l,Oz] (.b (!l.all bH)):=by
 have h1:=dm l _ _ hl EL;rw[im]at h1;unfold A1;refine eW Tryz.call345 Tryz.func345 ?_;repeat' first|simp only[go_sem,seval]|refine cP h1 ?_|refine sB ?_|(first|apply pX|apply bX)<;>intro hc|refine⟨oD,?_⟩|exact oD|fail
theorem EM (a:Bytes):aB Tryz.prog 346 [.s a] (.b (!aa a)):=by
 have hv:=aF a;generalize aa a=b at*;refine eW Tryz.call346 Tryz.func346 ?_;repeat' first|simp only[go_sem,seval]|refine cP hv ?_|refine sB ?_|(first|apply pX|apply bX)<;>intro hc|refine⟨oD,?_⟩|exact oD|fail
theorem Qc (f:FuncId) (c:List PV):aB Tryz.prog 245 [.sl [], .fc f [] c] (.b false):=by
 have hi:aB Tryz.prog 312 [.sl [], .fc f [] c] (E (-1)):=by
  refine eW Tryz.call312 Tryz.func312 ?_;repeat' first|simp only[go_sem,seval]|(refine ae ?_)|refine sB ?_|(first|apply pX|apply bX)<;>intro hc|refine⟨oD,?_⟩|exact oD|fail
 refine eW Tryz.call245 Tryz.func245 ?_;repeat' first|simp only[go_sem,seval]|refine cP hi ?_|refine sB ?_|(first|apply pX|apply bX)<;>intro hc|refine⟨oD,?_⟩|exact oD|fail
theorem iP:cC cu 2:=⟨fun _=>rfl,fun x y hy=>by obtain⟨n,a⟩:=x;simp[cu,PV.cells]at hy;rcases hy with rfl|rfl<;>rfl,fun h=>by omega,fun _ x=>rfl⟩
theorem zV:aB Tryz.prog 57 [.sl []] (.sl []):=by
 refine eW Tryz.call57 Tryz.func57 ?_;repeat' first|simp only[go_sem,seval]|refine sB ?_|(first|apply pX|apply bX)<;>intro hc|refine⟨oD,?_⟩|exact oD|fail
theorem Bw {l:List (Bool×Bytes)} (h0:l≠[]) (hl:l.length<1000000):aB Tryz.prog 295 [.sl (l.map cu)] (.sl (l.map cu)):=by
 obtain⟨x,r,rfl⟩: ∃x r,l=x::r:=by cases l with
  |nil=>exact absurd rfl h0
  |cons a b=>exact⟨a,b,rfl⟩
 rw[List.map_cons];have k1:(cu x::r.map cu)=(x::r).map cu:=rfl;have k0:(r.map cu).length=r.length:=List.length_map ..;refine eW Tryz.call295 Tryz.func295 ?_;repeat' first|simp only[go_sem,seval,k0]|refine sB ?_|(first|apply pX|apply bX)<;>intro hc|refine⟨oD,?_⟩|exact oD|fail
 have hrow:List.map AV.v ((cu x).cells++List.flatMap PV.cells (List.map cu r))=aQ cu (x::r):=by
  rw[aQ,List.flatMap_cons,List.flatMap_map]
 have hL:((cu x).cells++List.flatMap PV.cells (List.map cu r)).length=(r.length+1)*2:=by
  have:=a9 iP (x::r);rw[←hrow,List.length_map]at this;exact this
 have q1:List.take ((r.length+1)*2) (aQ cu (x::r))=aQ cu (x::r):=a5 iP (x::r);have q2:=ct iP (x::r);have q3:chunk 2 (r.length+1) ((x::r).flatMap fun x=>(cu x).cells)=(x::r).map cu:=bj iP (x::r)
 have q4: ∀y∈aQ cu (x::r),y.one=true:=fun y hy=>List.all_eq_true.1 q2 y hy
 rw[hrow];refine⟨⟨⟨iP.len x,fun y hy=>by obtain⟨z,-,rfl⟩:=List.mem_map.1 hy;exact iP.len z⟩,q4,by simp at hl;omega,by simp at hl;omega⟩,?_⟩
 simp only[hL,q1,q2,q3,cj,Nat.le_refl,and_self,if_true,Option.map_some];exact⟨trivial,rfl⟩
def X0 (c sl:Bytes) (s:bQ):PV:= .agg [.s c, .s sl, .sl (s.groups.map dU), .sl (s.vars.map bV), .sl (s.eqs.map cG.pv), .sl [], .sl [], .s []]
def ff (c:Bytes) (nv:Nat) (ch:Bytes) (rs:List (Bool×Bytes)) (gs:List Bytes) (ls:List (List (Bool×Bytes))):Int:=
 if !(aa ch&&rs.all bH&&ls.all (fun l=>l.all bH)&&gs.all aa)then 3 else if rs.length≠nv∨gs≠[]∨ls≠[]then 6 else if num c≤num ch then 2 else 0
def C5 (ch:Bytes) (rs:List (Bool×Bytes)) (gs:List Bytes) (ls:List (List (Bool×Bytes))):PV:= .agg [.s ch, .sl (rs.map cu), .sl (gs.map .s), .sl (ls.map A1)]
theorem ua {c sl:Bytes} (vc:aa c=true) (s:bQ) (ch:Bytes) (rs:List (Bool×Bytes)) (gs:List Bytes) (ls:List (List (Bool×Bytes))) (h1:rs.length<1000000) (h2:gs.length≤1000) (h3:ls.length≤1000) (h4: ∀l∈ls,l.length<4611686018427387904):aB Tryz.prog 292 [X0 c sl s,C5 ch rs gs ls] (E (ff c s.vars.length ch rs gs ls)):=by
 have v1:=aF ch;have v2:=wF rs (by omega)
 have v3:=iV ls 345 [Oz] (fun l=> !l.all bH) (by omega) fun l hl=>wF l (h4 l hl)
 rw[im]at v3;have v4:=ik gs _ _ (by omega) EM
 rw[im]at v4;have v5:=Qc 347 [.pt (X0 c sl s) 0];obtain⟨gq,vs,es⟩:=s;unfold A1 at v2;simp only[X0,C5,ff]at v5⊢;have l1:(rs.map cu).length=rs.length:=List.length_map ..;have l2:(vs.map bV).length=vs.length:=List.length_map ..;have l3:(gs.map PV.s).length=gs.length:=List.length_map ..;have l4:(ls.map A1).length=ls.length:=List.length_map ..
 by_cases hok:(aa ch&&rs.all bH&&ls.all (fun l=>l.all bH)&&gs.all aa)=true
 ·rw[hok];simp only[Bool.and_eq_true]at hok;obtain⟨⟨⟨o1,o2⟩,o3⟩,o4⟩:=hok;rw[o1]at v1;rw[o2]at v2;rw[o3]at v3;rw[o4]at v4
  by_cases hm:rs.length≠vs.length∨gs≠[]∨ls≠[]
  ·simp only[Bool.not_true,Bool.false_eq_true,if_false,if_pos hm];have hm':rs.length≠vs.length∨(rs.length=vs.length∧gs.length≠0)∨(rs.length=vs.length∧gs.length=0∧ls.length≠0):=by
    rcases hm with h|h|h
    ·exact .inl h
    ·have:gs.length≠0:=fun h0=>h (List.length_eq_zero_iff.1 h0)
     omega
    ·have:ls.length≠0:=fun h0=>h (List.length_eq_zero_iff.1 h0)
     omega
   clear hm v5 o2 o3 o4 h4;rcases hm' with h|⟨h,h'⟩|⟨h,h',h''⟩
   all_goals (
   refine eW Tryz.call292 Tryz.func292 ?_;repeat' first|simp only[go_sem,seval,aH,l1,l2,l3,l4]|refine cP v1 ?_|refine cV v2 ?_|refine cV v3 ?_|refine cP v4 ?_|refine sB ?_|(first|apply pX|apply bX)<;>intro hc|refine⟨oD,?_⟩|exact oD|fail
   try trivial)
   all_goals fail "a"
  ·simp only[Bool.not_true,Bool.false_eq_true,if_false,if_neg hm];have hm':rs.length=vs.length∧gs=[]∧ls=[]:=by
    refine⟨Decidable.byContradiction fun h=>hm (.inl h),Decidable.byContradiction fun h=>hm (.inr (.inl h)),Decidable.byContradiction fun h=>hm (.inr (.inr h))⟩
   obtain⟨e1,e2,e3⟩:=hm';subst e2;subst e3;have cm:=lW o1 vc;simp only[List.map_nil]at v3 v4;clear hm h4
   by_cases hge:num c≤num ch
   ·rw[if_pos hge];have h7: ∀ _:True,(0:Int)≤aT (num ch) (num c):=fun _=>kj.2 hge
    have h5: ∀ _:True,decide (aT (num ch) (num c)≥0)=true:=fun _=>decide_eq_true (h7 trivial)
    generalize aT (num ch) (num c)=z at*;refine eW Tryz.call292 Tryz.func292 ?_;repeat' first|simp only[go_sem,seval,aH,l1,l2,h5 trivial]|refine cP v1 ?_|refine cV v2 ?_|refine cV v3 ?_|refine cP v4 ?_|refine cP cm ?_|(refine ae ?_)|refine sB ?_|(first|apply pX|apply bX)<;>intro hc|refine⟨oD,?_⟩|exact oD|fail
   ·rw[if_neg hge];have h7: ∀ _:True,¬(0:Int)≤aT (num ch) (num c):=fun _ h=>hge (kj.1 h)
    have h5: ∀ _:True,decide (aT (num ch) (num c)≥0)=false:=fun _=>decide_eq_false (h7 trivial)
    generalize aT (num ch) (num c)=z at*;refine eW Tryz.call292 Tryz.func292 ?_;repeat' first|simp only[go_sem,seval,aH,l1,l2,h5 trivial]|refine cP v1 ?_|refine cV v2 ?_|refine cV v3 ?_|refine cP v4 ?_|refine cP cm ?_|refine cV v5 ?_|(refine ae ?_)|refine sB ?_|(first|apply pX|apply bX)<;>intro hc|refine⟨oD,?_⟩|exact oD|fail
 ·have hf:(aa ch&&rs.all bH&&ls.all (fun l=>l.all bH)&&gs.all aa)=false:=by simpa using hok
  rw[hf];simp only[Bool.not_false,if_true];clear hok v5 h4;generalize aa ch=b1 at*;generalize rs.all bH=b2 at*;generalize (ls.all fun l=>l.all bH)=b3 at*
  generalize gs.all aa=b4 at*;cases b1
  ·refine eW Tryz.call292 Tryz.func292 ?_;repeat' first|simp only[go_sem,seval,aH,l1,l2,l3,l4]|refine cP v1 ?_|refine cV v2 ?_|refine cV v3 ?_|refine cP v4 ?_|refine sB ?_|(first|apply pX|apply bX)<;>intro hc|refine⟨oD,?_⟩|exact oD|fail
  ·cases b2
   ·refine eW Tryz.call292 Tryz.func292 ?_;repeat' first|simp only[go_sem,seval,aH,l1,l2,l3,l4]|refine cP v1 ?_|refine cV v2 ?_|refine cV v3 ?_|refine cP v4 ?_|refine sB ?_|(first|apply pX|apply bX)<;>intro hc|refine⟨oD,?_⟩|exact oD|fail
   ·cases b3
    ·refine eW Tryz.call292 Tryz.func292 ?_;repeat' first|simp only[go_sem,seval,aH,l1,l2,l3,l4]|refine cP v1 ?_|refine cV v2 ?_|refine cV v3 ?_|refine cP v4 ?_|refine sB ?_|(first|apply pX|apply bX)<;>intro hc|refine⟨oD,?_⟩|exact oD|fail
    ·cases b4
     ·refine eW Tryz.call292 Tryz.func292 ?_;repeat' first|simp only[go_sem,seval,aH,l1,l2,l3,l4]|refine cP v1 ?_|refine cV v2 ?_|refine cV v3 ?_|refine cP v4 ?_|refine sB ?_|(first|apply pX|apply bX)<;>intro hc|refine⟨oD,?_⟩|exact oD|fail
     ·exact absurd hf (by simp)
end Go.Proofs.YtmobkhegihemeaaGreatDoor
namespace Go.Proofs.YtmobkhegihemeaaGreatDoor
open Go Go.Dom Go.Num
set_option maxRecDepth 100000
set_option maxHeartbeats 16000000
theorem Bx (l:List Bytes) (hl:l.length<1000000):aB Tryz.prog 57 [.sl (l.map .s)] (.sl (l.map .s)):=by
 cases l with
 |nil=>exact zV
 |cons x r=>
  rw[List.map_cons];have k1:(PV.s x::r.map .s)=(x::r).map .s:=rfl;have k0:(r.map PV.s).length=r.length:=List.length_map ..;refine eW Tryz.call57 Tryz.func57 ?_;repeat' first|simp only[go_sem,seval,k0]|refine sB ?_|(first|apply pX|apply bX)<;>intro hc|refine⟨oD,?_⟩|exact oD|fail
  obtain⟨-,r2,r3,-⟩:=JF r;obtain⟨-,-,-,r4⟩:=JF (x::r);rw[pS];refine⟨⟨fun x hx=>tG hx,fun x hx=>List.all_eq_true.1 r2 x hx,by simp at hl;omega,by simp at hl;omega⟩,?_⟩
  simp only[List.length_map,Nat.le_refl,r3,r2,dx,and_self,if_true,Option.map_some];exact⟨trivial,congrArg PV.sl r4⟩
theorem JJ (v1 v2 v3:Value) (w:World):CallsD Tryz.prog 265 #[v1,v2,v3] .returning w fun e u' w'=>e= .returned (.tuple #[])∧u'= .returning∧w'=w:=by
 refine callsD_of_wpS Tryz.func265 rfl fun c₀ cs hu=> ?_
 apply wpS_seq;apply wpS_region;simp[wpOpsS,go_sem,recoverD,hu,Tryz.ntmps265,Exit.thenS];apply wpS_seq;apply wpS_region;simp[wpOpsS,go_sem,Exit.thenS];refine wpS_cond (t:=false) (by simp[Act.eval,Array.replicate]) ?_
 simp only[Bool.false_eq_true,if_false];refine wpS_of_wp (wp_skip ?_);cases c₀;simp_all[bodyPostS,results,Tryz.results265]
noncomputable abbrev lf:Code:=Tryz.f187.body.getD .skip
theorem Rf (a:Act) (w:World) (Q:Exit→Act→World→Prop) (hd:a.defers=[]) (hs:a.tmps.size=Tryz.f187.ntmps) (hQ: ∀a' d,a'.tmps.size=Tryz.f187.ntmps→(∀k,k≠56→a'.tmps.getD k undef=a.tmps.getD k undef)→a'.defers=[d]→Idle Tryz.prog d→Q .normal a' w):(nc (yf 5 lf)).wp Tryz.prog Q a w:=by
 have hmf: ∀(fn:Fn) (first cap:Array Value) (w:World),(Instr.makeFunc fn first cap).run Tryz.prog w= .ok (.func fn first cap) w:=fun _ _ _ _=>rfl
 show(Code.region 6 _ false).wp Tryz.prog Q a w;apply wp_region;simp[wpOps,go_sem,hd];have h10:56<a.tmps.size:=by rw[hs,Tryz.ntmps187];decide
 refine .inl ?_;refine .inl ?_;rw[if_pos h10];refine hQ {tmps:=a.tmps.setIfInBounds 56 (.func (.func 265) #[] #[a.tmps[8]?.getD undef,a.tmps[9]?.getD undef,a.tmps[10]?.getD undef]),defers:=[⟨.fn (.func 265) #[a.tmps[8]?.getD undef,a.tmps[9]?.getD undef,a.tmps[10]?.getD undef], #[]⟩]} ⟨.fn (.func 265) #[a.tmps[8]?.getD undef,a.tmps[9]?.getD undef,a.tmps[10]?.getD undef], #[]⟩ ?_ ?_ ?_ ⟨.func 265, #[a.tmps[8]?.getD undef,a.tmps[9]?.getD undef,a.tmps[10]?.getD undef],265, #[a.tmps[8]?.getD undef,a.tmps[9]?.getD undef,a.tmps[10]?.getD undef],rfl,fun w=>⟨?_,JJ _ _ _ w⟩⟩
 ·simp[hs]
 ·intro k hk;simp[Array.getElem?_setIfInBounds_ne (Ne.symm hk)]
 ·rfl
 ·simp[invoke,go_sem]
theorem JI:Tryz.f187.body=some (JQ [nc (yf 0 lf),nc (yf 1 lf),nc (yf 2 lf),nc (yf 3 lf),nc (yf 4 lf)] (.seq (nc (yf 5 lf)) (yf 6 lf))):=by kernel_rfl
theorem F8 {nt:Nat} {c:Code} {sc:SC} {r:List Code} {s s1 s2:AS} (h:CW Tryz.prog (fun e x=>e= .normal∧s1.Le x) sc [] s) (hr:Ld Tryz.prog nt r s1 s2) (hc:ix Tryz.prog NI nt c=some sc:=by cbv) (hng:sc.bZ=true:=by exact rfl):Ld Tryz.prog nt (c::r) s s2:= .cons (eT.1 _ _ _ hc) hng (CW.start h) hr
theorem JH (vs:List Bytes) (sd:Bytes) (a:Int) (hl:vs.length<1000000):aB Tryz.prog 187 [C0, .sl [], .s [],T vs sd a] (.tup [.agg [.sl [], .sl [], .sl [], .sl []],T vs sd a,E 0]):=by
 have hc:=Bx vs hl;have ho:aB Tryz.prog 201 [C0] (.s []):=by
  refine eW Tryz.call201 Tryz.func201 ?_;repeat' first|simp only[go_sem,seval]|(refine ae ?_)|refine sB ?_|(first|apply pX|apply bX)<;>intro hc|refine⟨oD,?_⟩|exact oD|fail
 refine aB.FL (sl:=56) (pre:=[nc (yf 0 lf),nc (yf 1 lf),nc (yf 2 lf),nc (yf 3 lf),nc (yf 4 lf)]) (cD:=nc (yf 5 lf)) (c2:=yf 6 lf) (s2:=⟨[(1, .v (.sl [])),(8, .p 1002 0 0),(9, .p 1003 0 0),(10, .p 1004 0 0),(11, .v (.sl [])),(12, .p 1014 0 0)],[(1002,⟨0,[.sn, .sn, .sn, .sn],false,some 172⟩),(1003,⟨0,[.sn, .v (.s []), .v (.i .i64 0)],false,some 40⟩),(1004,⟨0,[.v (.i .i64 0)],false,some 32⟩),(1014,⟨0,[.v (.sl []), .v (.sl []), .v (.s []), .v (.sl (vs.map .s)), .v (.s sd), .v (.i .i64 a), .v (.sl []), .rs 1020 0 0 0 1, .rs 1024 0 0 0 1, .rs 1028 0 0 0 1],false,none⟩),(1020,⟨0,[],false,none⟩),(1024,⟨0,[],false,none⟩),(1028,⟨0,[],false,none⟩)],1042⟩) mixed Tryz.call187 Tryz.func187 JI rfl (eT.1 _ _ _ (by cbv)) (eT.2 _ _ (by cbv)) Rf (Nat.le_of_ble_eq_true rfl) rfl (F8 (s1:=⟨[(1, .v (.sl [])),(2, .v (.s [])),(4, .p 1000 0 0),(7, .p 1001 0 0),(8, .p 1002 0 0),(9, .p 1003 0 0),(10, .p 1004 0 0)],[(1000,⟨0,[.v (.sl []), .v (.sl [])],false,none⟩),(1001,⟨0,[.v (.sl (vs.map .s)), .v (.s sd), .v (.i .i64 a)],false,none⟩),(1002,⟨0,[.sn, .sn, .sn, .sn],false,some 172⟩),(1003,⟨0,[.sn, .v (.s []), .v (.i .i64 0)],false,some 40⟩),(1004,⟨0,[.v (.i .i64 0)],false,some 32⟩)],1005⟩) ?_ (F8 (s1:=⟨[(1, .v (.sl [])),(2, .v (.s [])),(4, .p 1000 0 0),(7, .p 1001 0 0),(8, .p 1002 0 0),(9, .p 1003 0 0),(10, .p 1004 0 0),(11, .v (.sl []))],[(1000,⟨0,[.v (.sl []), .v (.sl [])],false,none⟩),(1001,⟨0,[.v (.sl (vs.map .s)), .v (.s sd), .v (.i .i64 a)],false,none⟩),(1002,⟨0,[.sn, .sn, .sn, .sn],false,some 172⟩),(1003,⟨0,[.sn, .v (.s []), .v (.i .i64 0)],false,some 40⟩),(1004,⟨0,[.v (.i .i64 0)],false,some 32⟩)],1009⟩) ?_ (F8 (s1:=⟨[(1, .v (.sl [])),(2, .v (.s [])),(4, .p 1000 0 0),(7, .p 1001 0 0),(8, .p 1002 0 0),(9, .p 1003 0 0),(10, .p 1004 0 0),(11, .v (.sl [])),(12, .p 1014 0 0)],[(1000,⟨0,[.v (.sl []), .v (.sl [])],false,none⟩),(1001,⟨0,[.v (.sl (vs.map .s)), .v (.s sd), .v (.i .i64 a)],false,none⟩),(1002,⟨0,[.sn, .sn, .sn, .sn],false,some 172⟩),(1003,⟨0,[.sn, .v (.s []), .v (.i .i64 0)],false,some 40⟩),(1004,⟨0,[.v (.i .i64 0)],false,some 32⟩),(1014,⟨0,[.v (.sl []), .v (.sl []), .v (.s []), .v (.sl (vs.map .s)), .v (.s sd), .v (.i .i64 a), .sn, .sn, .sn, .sn],false,none⟩)],1016⟩) ?_ ?_))) (CW.start ?_)
 ·simp only[List.mapIdx_cons,List.mapIdx_nil];repeat' first|simp only[go_sem,seval]|refine sB ?_|(first|apply pX|apply bX)<;>intro hc|refine⟨oD,?_⟩|exact oD|fail
  exact lE
 ·repeat' first|simp only[go_sem,seval]|refine sB ?_|(first|apply pX|apply bX)<;>intro hc|refine⟨oD,?_⟩|exact oD|fail
  exact lE
 ·repeat' first|simp only[go_sem,seval]|refine cP ho ?_|refine sB ?_|(first|apply pX|apply bX)<;>intro hc|refine⟨oD,?_⟩|exact oD|fail
  exact lE
 ·refine F8 (s1:=⟨[(1, .v (.sl [])),(8, .p 1002 0 0),(9, .p 1003 0 0),(10, .p 1004 0 0),(11, .v (.sl [])),(12, .p 1014 0 0)],[(1002,⟨0,[.sn, .sn, .sn, .sn],false,some 172⟩),(1003,⟨0,[.sn, .v (.s []), .v (.i .i64 0)],false,some 40⟩),(1004,⟨0,[.v (.i .i64 0)],false,some 32⟩),(1014,⟨0,[.v (.sl []), .v (.sl []), .v (.s []), .v (.sl (vs.map .s)), .v (.s sd), .v (.i .i64 a), .v (.sl []), .rs 1020 0 0 0 1, .rs 1024 0 0 0 1, .rs 1028 0 0 0 1],false,none⟩),(1020,⟨0,[],false,none⟩),(1024,⟨0,[],false,none⟩),(1028,⟨0,[],false,none⟩)],1033⟩) ?_ (F8 ?_ (.nil _))
  ·repeat' first|simp only[go_sem,seval]|refine sB ?_|(first|apply pX|apply bX)<;>intro hc|refine⟨oD,?_⟩|exact oD|fail
   exact lE
  ·repeat' first|simp only[go_sem,seval]|refine sB ?_|(first|apply pX|apply bX)<;>intro hc|refine⟨oD,?_⟩|exact oD|fail
   exact lE
 ·repeat' first|simp only[go_sem,seval]|(refine ae ?_)|refine cP hc ?_|refine sB ?_|(first|apply pX|apply bX)<;>intro hc|refine⟨oD,?_⟩|exact oD|fail
  all_goals rfl
theorem D6 (l:List Bytes) (hl:l.length<1000000):aB Tryz.prog 198 [.sl (l.map .s)] (.b (l.all aa)):=by
 have h1: ∀x,aB Tryz.prog 283 [PV.s x] (.b (!aa x)):=fun x=>by
  have hv:=aF x;generalize aa x=b at*;refine eW Tryz.call283 Tryz.func283 ?_;repeat' first|simp only[go_sem,seval]|refine cP hv ?_|refine sB ?_|(first|apply pX|apply bX)<;>intro hc|refine⟨oD,?_⟩|exact oD|fail
 have hc:=ik l _ _ (by omega) h1
 rw[im]at hc;generalize l.all aa=b at*;refine eW Tryz.call198 Tryz.func198 ?_;repeat' first|simp only[go_sem,seval,Bool.not_not]|refine cP hc ?_|refine sB ?_|(first|apply pX|apply bX)<;>intro hc|refine⟨oD,?_⟩|exact oD|fail
theorem wK (vs:List Bytes) (sd:Bytes) (a:Int) (hl:vs.length<1000000):aB Tryz.prog 185 [T vs sd a] (.b (bm vs a)):=by
 have h:=D6 vs hl;unfold bm;rw[im,Bool.not_not];generalize vs.all aa=b at*;refine eW Tryz.call185 Tryz.func185 ?_;repeat' first|simp only[go_sem,seval]|refine cP h ?_|refine sB ?_|(first|apply pX|apply bX)<;>intro hc|refine⟨oD,?_⟩|exact oD|fail
 all_goals simp_all
 all_goals (intros;omega)
theorem Ml:aB Tryz.prog 184 [.sl []] (.b true):=by
 have hi:aB Tryz.prog 252 [.sl [], .fn (.func 262)] (E (-1)):=by
  refine eW Tryz.call252 Tryz.func252 ?_;repeat' first|simp only[go_sem,seval]|(refine ae ?_)|refine sB ?_|(first|apply pX|apply bX)<;>intro hc|refine⟨oD,?_⟩|exact oD|fail
 have h:aB Tryz.prog 173 [.sl [], .fn (.func 262)] (.b false):=by
  refine eW Tryz.call173 Tryz.func173 ?_;repeat' first|simp only[go_sem,seval]|refine cP hi ?_|refine sB ?_|(first|apply pX|apply bX)<;>intro hc|refine⟨oD,?_⟩|exact oD|fail
 refine eW Tryz.call184 Tryz.func184 ?_;repeat' first|simp only[go_sem,seval]|refine cP h ?_|refine sB ?_|(first|apply pX|apply bX)<;>intro hc|refine⟨oD,?_⟩|exact oD|fail
theorem NH:aB Tryz.prog 256 [F0, .sl []] (.sl []):=by
 refine eW Tryz.call256 Tryz.func256 ?_;repeat' first|simp only[go_sem,seval]|(refine ae ?_)|refine sB ?_|(first|apply pX|apply bX)<;>intro hc|refine⟨oD,?_⟩|exact oD|fail
theorem px:aB Tryz.prog 180 [F0, .sl []] (.tup [.sl [],E 0]):=by
 refine eW Tryz.call180 Tryz.func180 ?_;repeat' first|simp only[go_sem,seval]|refine cP AB ?_|refine cP NH ?_|refine sB ?_|(first|apply pX|apply bX)<;>intro hc|refine⟨oD,?_⟩|exact oD|fail
theorem Hg:aB Tryz.prog 264 [F0, .sl []] (.tup [.sl [],E 0]):=by
 refine eW Tryz.call264 Tryz.func264 ?_;repeat' first|simp only[go_sem,seval]|refine cP px ?_|refine sB ?_|(first|apply pX|apply bX)<;>intro hc|refine⟨oD,?_⟩|exact oD|fail
theorem IE:aB Tryz.prog 186 [C0, .sl []] (.tup [.sl [],E 0]):=by
 refine eW Tryz.call186 Tryz.func186 ?_;repeat' first|simp only[go_sem,seval]|(refine ae ?_)|(refine gD [1011] Hg rfl rfl rfl ?_)|refine sB ?_|(first|apply pX|apply bX)<;>intro hc|refine⟨oD,?_⟩|exact oD|fail
abbrev R4:PV:= .agg [.sl [], .sl [], .sl [], .sl []]
theorem He {vs:List Bytes} {a:Int} (sd:Bytes) (hg:bm vs a=true) (hl:vs.length<1000000):aB Tryz.prog 117 [C0, .sl [],T vs sd a] (.tup [R4,T vs sd a,E 0]):=by
 have h:=wK vs sd a hl;rw[hg]at h;have hr:=JH vs sd a hl;refine eW Tryz.call117 Tryz.func117 ?_;repeat' first|simp only[go_sem,seval]|refine cP Ad ?_|refine cP Ml ?_|refine cP h ?_|refine cP IE ?_|refine cP hr ?_|refine sB ?_|(first|apply pX|apply bX)<;>intro hc|refine⟨oD,?_⟩|exact oD|fail
 all_goals rfl
end Go.Proofs.YtmobkhegihemeaaGreatDoor
