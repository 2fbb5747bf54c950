/-
  Part of the proof, part Y34. Own work.
-/
import Derived.Test.YtmledjfbgjnknaaGreatDoorY33
set_option linter.all false
namespace Go.Dom
structure RowOK {α:Type} (f:α→PV) (z:Nat):Prop where
 len: ∀x,(f x).cells.length=z
 one: ∀x,∀y∈(f x).cells,y.one=true
 z1:z=1→ ∀x,(f x).cells=[f x]
 zn:z≠1→ ∀x,f x= .agg (f x).cells
def rowF {α:Type} (f:α→PV) (l:List α):List AV:=(l.flatMap fun x=>(f x).cells).map AV.v
variable {α:Type} {f:α→PV} {z:Nat}
theorem RowOK.s:RowOK PV.s 1:=⟨fun _=>rfl,fun _ y hy=>by cases List.mem_singleton.1 hy;rfl,fun _ _=>rfl,fun h=>absurd rfl h⟩
theorem flatF_len (h:RowOK f z) (l:List α):(l.flatMap fun x=>(f x).cells).length=l.length*z:=by
 induction l with
 |nil=>simp
 |cons x l ih=>rw[List.flatMap_cons,List.length_append,ih,h.len,List.length_cons,Nat.succ_mul];omega
theorem rowF_len (h:RowOK f z) (l:List α):(rowF f l).length=l.length*z:=by rw[rowF,List.length_map,flatF_len h]
theorem rowF_take (h:RowOK f z) (l:List α):(rowF f l).take (l.length*z)=rowF f l:=List.take_of_length_le (by rw[rowF_len h];exact Nat.le_refl _)
theorem rowF_all (h:RowOK f z) (l:List α):(rowF f l).all AV.one=true:=by
 rw[List.all_eq_true];intro y hy;obtain⟨c,hc,rfl⟩:=List.mem_map.1 hy;obtain⟨x,-,hx⟩:=List.mem_flatMap.1 hc;exact h.one x c hx
theorem rowF_mapO (hf:Nat→Option AObj) (k:Nat) (l:List α):mapO (view hf (k+1)) (rowF f l)=some (l.flatMap fun x=>(f x).cells):=mapO_view_v _ _ _
theorem rowF_viewN (hf:Nat→Option AObj) (k:Nat) (l:List α):(rowF f l).flatMap (viewN hf (k+1))=[]:=by
 unfold rowF
 induction (l.flatMap fun x=>(f x).cells)with
 |nil=>rfl
 |cons x l ih=>simp_all[viewN]
theorem rowF_chunk (h:RowOK f z) (l:List α):chunk z l.length (l.flatMap fun x=>(f x).cells)=l.map f:=by
 induction l with
 |nil=>rfl
 |cons x l ih=>
  have hl:=h.len x;rw[List.length_cons,List.flatMap_cons,chunk,List.drop_left' hl,ih,List.map_cons];congr 1
  by_cases h1:z=1
  ·rw[if_pos h1,h.z1 h1 x];rfl
  ·rw[if_neg h1,List.take_left' hl];exact(h.zn h1 x).symm
theorem bd_row {l:List α} {c:AV} {n:Nat} (h:c∈rowF f l):c.bd n=true:=by
 obtain⟨x,-,rfl⟩:=List.mem_map.1 h;rfl
theorem rowF_snoc (l:List α) (x:α):rowF f (l++[x])=rowF f l++(f x).cells.map AV.v:=by
 simp[rowF,List.flatMap_append]
theorem rowF_get1 (h: ∀x,(f x).cells=[f x]) (l:List α) (d:α) {i:Nat} (hi:i<l.length):(rowF f l).getD i .u= .v (f (l.getD i d)):=by
 have e:rowF f l=l.map fun x=>AV.v (f x):=by
  unfold rowF;clear hi
  induction l with
  |nil=>rfl
  |cons x l ih=>rw[List.flatMap_cons,h x,List.map_append,ih];rfl
 rw[e];simp[List.getD_eq_getElem?_getD,hi]
theorem view_rowF (h:RowOK f z) {hf:Nat→Option AObj} {k n ver:Nat} {gr:Bool} {el:Option TypeId} {l:List α} {m:Nat} (hm:m=l.length) (hg:hf n=some ⟨ver,rowF f l,gr,el⟩):view hf (k+2) (.rs n ver 0 m z)=some (.sl (l.map f)):=by
 subst hm;have h1:=rowF_len h l;have h2:=rowF_all h l;have h3:=rowF_take h l;simp[view,hg,h1,h2,h3,rowF_mapO,rowF_chunk h]
theorem viewN_rowF (h:RowOK f z) {hf:Nat→Option AObj} {k n ver:Nat} {gr:Bool} {el:Option TypeId} {l:List α} {m:Nat} (hm:m=l.length) (hg:hf n=some ⟨ver,rowF f l,gr,el⟩):viewN hf (k+2) (.rs n ver 0 m z)=[n]:=by
 subst hm;simp[viewN,hg,rowF_take h,rowF_viewN]
theorem leZ (hr:RowOK f z) {t t':List (Nat×AV)} {h h':List (Nat×AObj)} {n n' k m ver len:Nat} {gr:Bool} {el:Option TypeId} {l:List α} (hk:tget t' k= .rs m ver 0 len z) (hg:hget h' m=some ⟨ver,rowF f l,gr,el⟩) (hl:len=l.length) (ht:LeT t' n t) (hh:LeH h' n h) (hm1:1000≤m:=by decide) (hmh:hget h m=none:=by rfl) (hn:n≤n':=by first|decide|omega):(AS.mk ((k, .v (.sl (l.map f)))::t) h n).Le ⟨t',h',n'⟩:=
 AS.Le.ofZ [(k, .sl (l.map f))] [m] (fun x hx=>by obtain rfl:=List.mem_singleton.1 hx;exact⟨hm1,hmh⟩) (fun q hq=>by
  obtain rfl:=List.mem_singleton.1 hq;simp only[hk];exact⟨view_rowF hr hl hg,fun x hx=>by rw[viewN_rowF hr hl hg]at hx;exact hx⟩) hn ht hh
theorem take_succ_getD {α:Type} {l:List α} {i:Nat} (d:α) (h:i<l.length):l.take (i+1)=l.take i++[l.getD i d]:=by
 rw[List.take_succ,List.getElem?_eq_getElem h,List.getD_eq_getElem?_getD,List.getElem?_eq_getElem h];rfl
theorem any_not {α:Type} (l:List α) (p:α→Bool):(l.any fun x=> !p x)= !l.all p:=by
 induction l with
 |nil=>rfl
 |cons x l ih=>rw[List.any_cons,List.all_cons,ih];cases p x<;>simp
end Go.Dom
namespace Go.Proofs.YtmledjfbgjnknaaGreatDoor
open Go Go.Dom Go.Num
set_option maxRecDepth 100000
set_option maxHeartbeats 16000000
def ordL:List (Bytes×Bytes)→Bytes
 |[]=>[]
 |g::r=>if g.2=[]then ordL r else g.2
theorem sorder_ok (s:Stm) (hl:s.groups.length<1000000):EvP Tryz.prog 227 [s.pv] (.s (ordL s.groups)):=by
 obtain⟨gs,vs,es⟩:=s;simp only at hl;have l1:(gs.map gpv).length=gs.length:=List.length_map ..;unfold Stm.pv;simp only;refine eW Tryz.call227 Tryz.func227 ?_;repeat' first|simp only[go_sem,seval,l1]|refine sB ?_|(first|apply pX|apply bX)<;>intro hc|refine⟨oD,?_⟩|exact oD|fail
 refine loop_run (α:=Nat) (fun i=>gs.length-i) (fun i=>⟨[(1, .p 1000 0 0),(6, .v (.sl (gs.map gpv))),(7,E' gs.length),(8,E' i)],[(1000,⟨0,[.v (.sl (gs.map gpv)), .v (.sl (vs.map vpv)), .v (.sl (es.map Eqn.pv))],false,none⟩)],_⟩) (fun i=>i≤gs.length∧ordL (gs.drop i)=ordL gs) 0 (fun _=>Nat.le_refl _) ⟨Nat.zero_le _,rfl⟩ ?_ ?_
 ·exact lE
 ·rintro i ⟨hi,hf⟩ R hR;rw[←hf]
  by_cases hlt:i<gs.length
  ·have e1:=getD_map gpv gs d0G hlt;have hgo:=hR (i+1);rw[←hf]at hgo;rw[drop_getD d0G hlt]at hgo⊢;obtain⟨x,hx⟩: ∃x,x=gs.getD i d0G:=⟨_,rfl⟩;rw[←hx]at e1 hgo⊢;clear hx hf hR;obtain⟨m,o⟩:=x;simp only[ordL]at hgo⊢;simp only[gpv]at e1
   by_cases ho:o=[]
   ·subst ho;simp only[if_true]at hgo⊢;have hgo:=hgo ⟨by omega,trivial⟩ (by omega)
    repeat' first|simp only[go_sem,seval,l1,e1,nn]|refine sB ?_|(first|apply pX|apply bX)<;>intro hc|refine⟨oD,?_⟩|exact oD|fail
    refine hgo _ ?_;exact lE
   ·have hb:(o==([]:Bytes))=false:=by simpa using ho
    rw[if_neg ho];repeat' first|simp only[go_sem,seval,l1,e1,hb]|refine sB ?_|(first|apply pX|apply bX)<;>intro hc|refine⟨oD,?_⟩|exact oD|fail
  ·obtain rfl:i=gs.length:=by omega
   rw[List.drop_length];repeat' first|simp only[go_sem,seval,l1]|refine sB ?_|(first|apply pX|apply bX)<;>intro hc|refine⟨oD,?_⟩|exact oD|fail
   all_goals rfl
theorem skind_ok {b:Bytes} (h:b≠[]):EvP Tryz.prog 228 [vpv b] (E 1):=by
 have hb:(b==([]:Bytes))=false:=by simpa using h
 unfold vpv;refine eW Tryz.call228 Tryz.func228 ?_;repeat' first|simp only[go_sem,seval,hb]|refine sB ?_|(first|apply pX|apply bX)<;>intro hc|refine⟨oD,?_⟩|exact oD|fail
structure RuOK (c sl:Bytes):Prop where
 vc:validN c=true
 vs:validN sl=true
 lc:c.length≤8
 ls:sl.length≤8
 c2:2≤num c
 s2:2≤num sl
def limM (c sl b:Bytes):Nat:=num sl*num c*num b
def limR (c sl b:Bytes):Nat:=num sl*num c*num b-(num c-1)*(num b-1)
def limP (c sl b:Bytes):PV:= .agg [N (limM c sl b),N (limR c sl b)]
theorem num16 {b:Bytes} (h:b.length≤16):num b<W128:=Nat.lt_of_lt_of_le (num_lt b) (Nat.pow_le_pow_right (by decide) h)
theorem limM_lt {c sl b:Bytes} (hr:RuOK c sl) (hb:b.length≤16):limM c sl b<LIM:=by
 have h1:num sl*num c<18446744073709551616*18446744073709551616:=Nat.mul_lt_mul'' (num8 hr.ls) (num8 hr.lc);have h2:limM c sl b<18446744073709551616*18446744073709551616*W128:=Nat.mul_lt_mul'' h1 (num16 hb);exact Nat.lt_of_lt_of_le h2 (by unfold LIM W128;decide+kernel)
theorem lim_le {c sl b:Bytes} (hr:RuOK c sl):(num c-1)*(num b-1)≤limM c sl b:=by
 unfold limM;have h1:(num c-1)*(num b-1)≤num c*num b:=Nat.mul_le_mul (by omega) (by omega)
 have h2:num c*num b≤num sl*(num c*num b):=Nat.le_mul_of_pos_left _ (by have:=hr.s2;omega)
 rw[Nat.mul_assoc];omega
theorem sintegral_ok {c sl q b:Bytes} (hr:RuOK c sl) (vb:validN b=true) (hb:b≠[]) (lb:b.length≤16):EvP Tryz.prog 230 [.agg [.s c, .s sl, .s q], .s b] (.tup [limP c sl b,E 0]):=by
 have h64:=w64_lim;have hw:=w256;have hML:=limM_lt hr lb;have hle:=lim_le (b:=b) hr;have hnc:=num8 hr.lc;have hns:=num8 hr.ls;have hnb:=num_pos (canon_of vb) hb;have hb16:=num16 lb;have e1:=N_of hr.vc;have e2:=N_of hr.vs;have e3:=N_of vb;have m1:=mulN (a:=num sl) (b:=num c) (Nat.lt_of_lt_of_le (Nat.mul_lt_mul'' hns hnc) (by unfold LIM;decide+kernel)) (by omega) (by omega)
 have m2:=mulN (a:=num sl*num c) (b:=num b) hML (Nat.lt_of_lt_of_le (Nat.mul_lt_mul'' hns hnc) (by unfold LIM;decide+kernel)) (by have:=w128;omega)
 have s1:=subN (a:=num c) (b:=1) (by have:=hr.c2;omega) (by omega)
 have s2:=subN (a:=num b) (b:=1) (by omega) (by have:=w128;omega)
 have m3:=mulN (a:=num c-1) (b:=num b-1) (by omega) (by omega) (by have:=w128;omega)
 have s3:=subN (a:=num sl*num c*num b) (b:=(num c-1)*(num b-1)) hle hML;rw[e1,e2]at m1;rw[e3]at m2;rw[e1]at s1;rw[e3]at s2;have hP:limP c sl b= .agg [N (num sl*num c*num b),N (num sl*num c*num b-(num c-1)*(num b-1))]:=rfl;rw[hP];clear hML hle hP;generalize num sl*num c*num b=A at*;generalize num sl*num c=B at*;generalize A-(num c-1)*(num b-1)=C at*;generalize (num c-1)*(num b-1)=D at*;refine eW Tryz.call230 Tryz.func230 ?_;repeat' first|simp only[go_sem,seval,one_eq]|refine cP Of1 ?_|refine cP m1 ?_|refine cP m2 ?_|refine cP s1 ?_|refine cP s2 ?_|refine cP m3 ?_|refine cP s3 ?_|refine sB ?_|(first|apply pX|apply bX)<;>intro hc|refine⟨oD,?_⟩|exact oD|fail
theorem limRow (c sl:Bytes):RowOK (limP c sl) 2:=⟨fun _=>rfl,fun x y hy=>by simp[limP,PV.cells]at hy;rcases hy with rfl|rfl<;>rfl,fun h=>by omega,fun _ x=>rfl⟩
theorem sbounds_ok {c sl:Bytes} (hr:RuOK c sl) {s:Stm} (hs:StOK s) (h0:s.vars≠[]):EvP Tryz.prog 120 [.agg [.s c, .s sl],s.pv] (.tup [.sl (s.vars.map (limP c sl)),E 0]):=by
 have hck:=lCheck_ok hs;have hor:=sorder_ok s (by have:=hs.ng;omega)
 have v1:=natValid c;have v2:=natValid sl;rw[hr.vc]at v1;rw[hr.vs]at v2;have c1:=cmpLt2 hr.vc;have c2:=cmpLt2 hr.vs;have d1: ∀ _:True,decide (cmpN (num c) 2<0)=false:=fun _=>decide_eq_false (fun g=>by have:=cmpN_lt.1 g;have:=hr.c2;omega)
 have d2: ∀ _:True,decide (cmpN (num sl) 2<0)=false:=fun _=>decide_eq_false (fun g=>by have:=cmpN_lt.1 g;have:=hr.s2;omega)
 generalize cmpN (num c) 2=cm1 at*;generalize cmpN (num sl) 2=cm2 at*;obtain⟨gs,vs,es⟩:=s;obtain⟨hg,hv,hq,ng,nv,ne⟩:=hs;simp only at hg hv hq ng nv ne hor h0;generalize ordL gs=q at*;have l2:(vs.map vpv).length=vs.length:=List.length_map ..;have hpos:0<vs.length:=List.length_pos_iff.2 h0;unfold Stm.pv at*;simp only at*;refine eW Tryz.call120 Tryz.func120 ?_;repeat' first|simp only[go_sem,seval,d1 trivial,d2 trivial,l2]|refine cP v1 ?_|refine cP v2 ?_|refine cP hck ?_|refine cP Of2 ?_|refine cP c1 ?_|refine cP c2 ?_|refine cP hor ?_|refine sB ?_|(first|apply pX|apply bX)<;>intro hc|refine⟨oD,?_⟩|exact oD|fail
 refine loop_run (α:=Nat) (fun i=>vs.length-i) (fun i=>⟨[(2, .p 1000 0 0),(3, .p 1001 0 0),(8, .p 1037 0 0),(50, .v (.sl (vs.map vpv))),(51,E' vs.length),(52,E' i)],[(1000,⟨0,[.v (.s c), .v (.s sl)],false,none⟩),(1001,⟨0,[.v (.sl (gs.map gpv)), .v (.sl (vs.map vpv)), .v (.sl (es.map Eqn.pv))],false,none⟩),(1037,⟨0,[.v (.s c), .v (.s sl), .v (.s q)],false,some 295⟩)],_⟩) (fun i=>i≤vs.length) 0 (fun _=>Nat.le_refl _) (Nat.zero_le _) ?_ ?_
 ·exact lE
 ·intro i hi R hR
  by_cases hlt:i<vs.length
  ·have e1:=getD_map vpv vs [] hlt;have k:=(hv _ (mem_getD [] hlt)).2.1;have hk:=skind_ok k;have hgo:=hR (i+1) (by omega) (by omega)
   obtain⟨x,hx⟩: ∃x,x=vs.getD i []:=⟨_,rfl⟩;rw[←hx]at e1 hk;clear hR hx k;simp only[vpv]at e1 hk;repeat' first|simp only[go_sem,seval,l2,e1]|refine cP hk ?_|refine sB ?_|(first|apply pX|apply bX)<;>intro hc|refine⟨oD,?_⟩|exact oD|fail
   refine hgo _ ?_;exact lE
  ·obtain rfl:i=vs.length:=by omega
   have hL:=limRow c sl;have row0: ∀{i:Nat},i<vs.length→rowF (limP c sl) (vs.take (i+1))=rowF (limP c sl) (vs.take i)++[.v (N (limM c sl (vs.getD i []))), .v (N (limR c sl (vs.getD i [])))]:=fun h=>by
    rw[take_succ_getD [] h,rowF_snoc];rfl
   have hint: ∀{i:Nat},i<vs.length→EvP Tryz.prog 230 [.agg [.s c, .s sl, .s q], .s (vs.getD i [])] (.tup [.agg [N (limM c sl (vs.getD i [])),N (limR c sl (vs.getD i []))],E 0]):=fun h=>by
    obtain⟨k1,k2,k3⟩:=hv _ (mem_getD [] h);exact sintegral_ok hr k1 k2 k3
   repeat' first|simp only[go_sem,seval,l2]|refine sB ?_|(first|apply pX|apply bX)<;>intro hc|refine⟨oD,?_⟩|exact oD|fail
   refine loop_unroll' ?_;have e1:=getD_map vpv vs [] hpos;have k:=(hv _ (mem_getD [] hpos)).2.1;have hk:=skind_ok k;have hi1:=hint hpos;have r1:=row0 hpos;simp only[vpv]at e1 hk;repeat' first|simp only[go_sem,seval,l2,e1]|refine cP hk ?_|refine cP hi1 ?_|refine sB ?_|(first|apply pX|apply bX)<;>intro hc|refine⟨oD,?_⟩|exact oD|fail
   refine loop_run (α:=Nat) (fun j=>vs.length-(j+1)) (fun j=>⟨[(11, .p 1049 0 0),(12, .rs 1079 j 0 (j+1) 2),(74, .v (.sl (vs.map vpv))),(75,E' vs.length),(76,E' (j+1))],[(1049,⟨0,[.fn (.func 229) [.v (.agg [.s c, .s sl, .s q])] [], .fn (.func 230) [.v (.agg [.s c, .s sl, .s q])] []],false,some 298⟩),(1079,⟨j,rowF (limP c sl) (vs.take (j+1)),true,some 218⟩)],1083⟩) (fun j=>j+1≤vs.length) 0 (fun _=>Nat.le_of_ble_eq_true rfl) hpos ?_ ?_
   ·have rn:rowF (limP c sl) []=[]:=rfl;rw[Nat.zero_add,r1,List.take_zero,rn];exact lE
   ·intro j hj R hR;have hj1:(vs.take (j+1)).length=j+1:=by rw[List.length_take];omega
    have q1:=rowF_len hL (vs.take (j+1));have q2:=rowF_take hL (vs.take (j+1));rw[hj1]at q1 q2;have hw1: ∀ _:True,((j:Int)+1)=((j+1:Nat):Int):=fun _=>by omega
    by_cases hlt:j+1<vs.length
    ·have e1:=getD_map vpv vs [] hlt;have k:=(hv _ (mem_getD [] hlt)).2.1;have hk:=skind_ok k;have hi1:=hint hlt;have r1:=row0 hlt;simp only[vpv]at e1 hk;have hgo:=hR (j+1) (by omega) (by omega)
     rw[r1]at hgo;clear hR;repeat' first|simp only[go_sem,seval,l2,e1,q1,q2]|refine cP hk ?_|refine cP hi1 ?_|refine sB ?_|(first|apply pX|apply bX)<;>intro hc|refine⟨oD,?_⟩|exact oD|fail
     refine hgo _ ?_
     (refine AS.Le.of (by first|decide|omega) ?_ ?_<;>simp[LeT,LeH,tget,hget,AV.bd,AV.bd.bdL,u8,bd_cellsOf,bcells_bd,icells_bd])
     all_goals (intro c hc;rcases hc with h|h|h<;>first|exact bd_row h|(subst h;rfl))
    ·obtain hjv:j+1=vs.length:=by omega
     rw[hjv,List.take_length]at q1 q2;rw[hjv,List.take_length];have q3:=rowF_all hL vs;have q4:=rowF_chunk hL vs;repeat' first|simp only[go_sem,seval,l2,q1,q2,q3,q4,rowF_mapO]|refine sB ?_|(first|apply pX|apply bX)<;>intro hc|refine⟨oD,?_⟩|exact oD|fail
     all_goals skip
end Go.Proofs.YtmledjfbgjnknaaGreatDoor
