/-
  Part of the proof, part 29. Own work.
-/
import Derived.Test.YtmobkhegihemeaaGreatDoorM28
set_option linter.all false
namespace Go.Dom
structure RowOK {α:Type} (f:α→PV) (z:Nat):Prop where
 len: ∀x,(f x).cells.length=z
 one: ∀x,∀y∈(f x).cells,y.one=true
 z1:z=1→ ∀x,(f x).cells=[f x]
 zn:z≠1→ ∀x,f x= .agg (f x).cells
def rowF {α:Type} (f:α→PV) (l:List α):List AV:=(l.flatMap fun x=>(f x).cells).map AV.v
variable {α:Type} {f:α→PV} {z:Nat}
theorem RowOK.s:RowOK PV.s 1:=⟨fun _=>rfl,fun _ y hy=>by cases List.mem_singleton.1 hy;rfl,fun _ _=>rfl,fun h=>absurd rfl h⟩
theorem flatF_len (h:RowOK f z) (l:List α):(l.flatMap fun x=>(f x).cells).length=l.length*z:=by
 induction l with
 |nil=>simp
 |cons x l ih=>rw[List.flatMap_cons,List.length_append,ih,h.len,List.length_cons,Nat.succ_mul];omega
theorem rowF_len (h:RowOK f z) (l:List α):(rowF f l).length=l.length*z:=by rw[rowF,List.length_map,flatF_len h]
theorem rowF_take (h:RowOK f z) (l:List α):(rowF f l).take (l.length*z)=rowF f l:=List.take_of_length_le (by rw[rowF_len h];exact Nat.le_refl _)
theorem rowF_all (h:RowOK f z) (l:List α):(rowF f l).all AV.one=true:=by
 rw[List.all_eq_true];intro y hy;obtain⟨c,hc,rfl⟩:=List.mem_map.1 hy;obtain⟨x,-,hx⟩:=List.mem_flatMap.1 hc;exact h.one x c hx
theorem rowF_mapO (hf:Nat→Option AObj) (k:Nat) (l:List α):mapO (view hf (k+1)) (rowF f l)=some (l.flatMap fun x=>(f x).cells):=mapO_view_v _ _ _
theorem rowF_viewN (hf:Nat→Option AObj) (k:Nat) (l:List α):(rowF f l).flatMap (viewN hf (k+1))=[]:=by
 unfold rowF
 induction (l.flatMap fun x=>(f x).cells)with
 |nil=>rfl
 |cons x l ih=>simp_all[viewN]
theorem rowF_chunk (h:RowOK f z) (l:List α):chunk z l.length (l.flatMap fun x=>(f x).cells)=l.map f:=by
 induction l with
 |nil=>rfl
 |cons x l ih=>
  have hl:=h.len x;rw[List.length_cons,List.flatMap_cons,chunk,List.drop_left' hl,ih,List.map_cons];congr 1
  by_cases h1:z=1
  ·rw[if_pos h1,h.z1 h1 x];rfl
  ·rw[if_neg h1,List.take_left' hl];exact(h.zn h1 x).symm
theorem bd_row {l:List α} {c:AV} {n:Nat} (h:c∈rowF f l):c.bd n=true:=by
 obtain⟨x,-,rfl⟩:=List.mem_map.1 h;rfl
theorem rowF_snoc (l:List α) (x:α):rowF f (l++[x])=rowF f l++(f x).cells.map AV.v:=by
 simp[rowF,List.flatMap_append]
theorem rowF_get1 (h: ∀x,(f x).cells=[f x]) (l:List α) (d:α) {i:Nat} (hi:i<l.length):(rowF f l).getD i .u= .v (f (l.getD i d)):=by
 have e:rowF f l=l.map fun x=>AV.v (f x):=by
  unfold rowF;clear hi
  induction l with
  |nil=>rfl
  |cons x l ih=>rw[List.flatMap_cons,h x,List.map_append,ih];rfl
 rw[e];simp[List.getD_eq_getElem?_getD,hi]
theorem view_rowF (h:RowOK f z) {hf:Nat→Option AObj} {k n ver:Nat} {gr:Bool} {el:Option TypeId} {l:List α} {m:Nat} (hm:m=l.length) (hg:hf n=some ⟨ver,rowF f l,gr,el⟩):view hf (k+2) (.rs n ver 0 m z)=some (.sl (l.map f)):=by
 subst hm;have h1:=rowF_len h l;have h2:=rowF_all h l;have h3:=rowF_take h l;simp[view,hg,h1,h2,h3,rowF_mapO,rowF_chunk h]
theorem viewN_rowF (h:RowOK f z) {hf:Nat→Option AObj} {k n ver:Nat} {gr:Bool} {el:Option TypeId} {l:List α} {m:Nat} (hm:m=l.length) (hg:hf n=some ⟨ver,rowF f l,gr,el⟩):viewN hf (k+2) (.rs n ver 0 m z)=[n]:=by
 subst hm;simp[viewN,hg,rowF_take h,rowF_viewN]
theorem take_succ_getD {α:Type} {l:List α} {i:Nat} (d:α) (h:i<l.length):l.take (i+1)=l.take i++[l.getD i d]:=by
 rw[List.take_succ,List.getElem?_eq_getElem h,List.getD_eq_getElem?_getD,List.getElem?_eq_getElem h];rfl
theorem any_not {α:Type} (l:List α) (p:α→Bool):(l.any fun x=> !p x)= !l.all p:=by
 induction l with
 |nil=>rfl
 |cons x l ih=>rw[List.any_cons,List.all_cons,ih];cases p x<;>simp
end Go.Dom
namespace Go.Proofs.YtmobkhegihemeaaGreatDoor
open Go Go.Dom Go.Num
set_option maxRecDepth 100000
set_option maxHeartbeats 8000000
structure Trm where
 (base:Bytes) (var:Int) (neg:Bool) (abs:Bytes)
def Trm.pv:Trm→PV
 |⟨b,v,n,a⟩=> .agg [.s b, .i .i64 v, .b n, .s a]
structure Eqn where
 (grp:Int) (tgt:Bytes) (terms:List Trm)
def Eqn.pv:Eqn→PV
 |⟨g,t,l⟩=> .agg [.i .i64 g, .s t, .sl (l.map Trm.pv)]
def gpv:Bytes×Bytes→PV
 |(m,o)=> .agg [.s m, .s o]
def vpv (b:Bytes):PV:= .agg [.s b]
def ipv:Bool×Bytes→PV
 |(n,a)=> .agg [.b n, .s a]
structure Stm where
 (groups:List (Bytes×Bytes)) (vars:List Bytes) (eqs:List Eqn)
def Stm.pv (s:Stm):PV:= .agg [.sl (s.groups.map gpv), .sl (s.vars.map vpv), .sl (s.eqs.map Eqn.pv)]
def ipz (z:Int):Bool×Bytes:=(zs z,zb z)
theorem ipv_ipz (z:Int):ipv (ipz z)=Z z:=rfl
def Zp (z:Int):PV:=ipv (ipz z)
def izok (x:Bool×Bytes):Bool:=validN x.2&& !(x.1&&x.2==[])
def d0T:Trm:=⟨[],0,false,[]⟩
def d0Q:Eqn:=⟨0,[],[]⟩
def d0G:Bytes×Bytes:=([],[])
def d0I:Bool×Bytes:=(false,[])
structure StOK (s:Stm):Prop where
 g: ∀p∈s.groups,gE p.1 p.2=0∧p.1.length≤8∧p.2.length≤8
 v: ∀b∈s.vars,validN b=true∧b≠[]∧b.length≤16
 q: ∀q∈s.eqs,0≤q.grp∧q.grp<s.groups.length∧gHas (s.groups.getD q.grp.toNat d0G).1 (s.groups.getD q.grp.toNat d0G).2 q.tgt=true∧q.terms.length≤64∧
  ∀t∈q.terms,0≤t.var∧t.var<s.vars.length∧gHas (s.groups.getD q.grp.toNat d0G).1 (s.groups.getD q.grp.toNat d0G).2 t.base=true∧izok (t.neg,t.abs)=true
 ng:s.groups.length≤8
 nv:s.vars.length≤64
 ne:s.eqs.length≤64
structure StM (s:Stm):Prop where
 g: ∀p∈s.groups,gE p.1 p.2=0∧p.1.length≤8∧p.2.length≤8
 q: ∀q∈s.eqs,0≤q.grp∧q.grp<s.groups.length∧gHas (s.groups.getD q.grp.toNat d0G).1 (s.groups.getD q.grp.toNat d0G).2 q.tgt=true∧q.terms.length≤64∧
  ∀t∈q.terms,0≤t.var∧t.var<s.vars.length∧gHas (s.groups.getD q.grp.toNat d0G).1 (s.groups.getD q.grp.toNat d0G).2 t.base=true∧izok (t.neg,t.abs)=true
 ng:s.groups.length≤8
 nv:s.vars.length≤64
 ne:s.eqs.length≤64
theorem StOK.m {s:Stm} (h:StOK s):StM s:=⟨h.g,h.q,h.ng,h.nv,h.ne⟩
theorem getD_map {α:Type} (f:α→PV) (l:List α) (d:α) {i:Nat} (h:i<l.length):(l.map f).getD i .fn0=f (l.getD i d):=by
 simp[List.getD_eq_getElem?_getD,h]
theorem drop_getD {α:Type} {l:List α} {i:Nat} (d:α) (h:i<l.length):l.drop i=l.getD i d::l.drop (i+1):=by
 rw[List.drop_eq_getElem_cons h,List.getD_eq_getElem?_getD,List.getElem?_eq_getElem h];rfl
theorem mem_getD {α:Type} {l:List α} {i:Nat} (d:α) (h:i<l.length):l.getD i d∈l:=by
 rw[List.getD_eq_getElem?_getD,List.getElem?_eq_getElem h];exact List.getElem_mem h
theorem gHas_valid {m o x:Bytes} (hE:gE m o=0) (h:gHas m o x=true):validN x=true:=((gHas_iff hE).1 h).1
theorem IndexFuncI_ok (l:List (Bool×Bytes)) (f:FuncId) (p:(Bool×Bytes)→Bool) (hl:l.length<4611686018427387904) (h: ∀x,EvP Tryz.prog f [ipv x] (.b (p x))):EvP Tryz.prog 251 [.sl (l.map ipv), .fn (.func f)] (E (idxF p 0 l)):=by
 have hlm:(l.map ipv).length=l.length:=List.length_map ..;refine eW Tryz.call251 Tryz.func251 ?_;repeat' first|simp only[go_sem,seval,hlm]|refine sB ?_|(first|apply pX|apply bX)<;>intro hc|refine⟨oD,?_⟩|exact oD|fail
 refine loop_run (α:=Nat) (fun i=>l.length-i) (fun i=>⟨[(0, .v (.sl (l.map ipv))),(1, .v (.fn (.func f))),(7, .v (.i .i64 l.length)),(8, .v (.i .i64 (i:Nat)))],[],_⟩) (fun i=>i≤l.length∧idxF p i (l.drop i)=idxF p 0 l) 0 (fun _=>Nat.le_refl _) ⟨Nat.zero_le _,rfl⟩ ?_ ?_
 ·exact lE
 ·rintro i ⟨hi,hx⟩ R hR;rw[←hx]
  by_cases hlt:i<l.length
  ·have e1:=getD_map ipv l d0I hlt;have hf:=h (l.getD i d0I);have hgo:=hR (i+1);rw[←hx,drop_getD d0I hlt]at hgo;rw[drop_getD d0I hlt];simp only[idxF]at hgo⊢;clear hx hR h;obtain⟨b,hb⟩: ∃b,b=p (l.getD i d0I):=⟨_,rfl⟩;rw[←hb]at hf hgo⊢;clear hb;obtain⟨x,hxx⟩: ∃x,x=l.getD i d0I:=⟨_,rfl⟩;rw[←hxx]at e1 hf;clear hxx;cases x;simp only[ipv]at e1 hf;cases b
   ·have hgo:=hgo ⟨by omega,rfl⟩ (by omega)
    repeat' first|simp only[go_sem,seval,hlm,e1]|refine cP hf ?_|refine sB ?_|(first|apply pX|apply bX)<;>intro hc|refine⟨oD,?_⟩|exact oD|fail
    refine hgo _ ?_;exact lE
   ·repeat' first|simp only[go_sem,seval,hlm,e1]|refine cP hf ?_|refine sB ?_|(first|apply pX|apply bX)<;>intro hc|refine⟨oD,?_⟩|exact oD|fail
    all_goals rfl
  ·obtain rfl:i=l.length:=by omega
   rw[List.drop_length];repeat' first|simp only[go_sem,seval,hlm]|refine sB ?_|(first|apply pX|apply bX)<;>intro hc|refine⟨oD,?_⟩|exact oD|fail
   all_goals simp[idxF]
theorem ContainsFuncI_ok (l:List (Bool×Bytes)) (f:FuncId) (p:(Bool×Bytes)→Bool) (hl:l.length<4611686018427387904) (h: ∀x,EvP Tryz.prog f [ipv x] (.b (p x))):EvP Tryz.prog 172 [.sl (l.map ipv), .fn (.func f)] (.b (l.any p)):=by
 have hi:=IndexFuncI_ok l f p hl h;have e:decide (idxF p 0 l≥0)=l.any p:=by
  rw[Bool.eq_iff_iff,decide_eq_true_iff];exact idxF_neg
 refine eW Tryz.call172 Tryz.func172 ?_;repeat' first|simp only[go_sem,seval,e]|refine cP hi ?_|refine sB ?_|(first|apply pX|apply bX)<;>intro hc|refine⟨oD,?_⟩|exact oD|fail
theorem IndexFuncQ_ok (l:List Eqn) (f:FuncId) (p:Eqn→Bool) (hl:l.length<4611686018427387904) (h: ∀x,EvP Tryz.prog f [Eqn.pv x] (.b (p x))):EvP Tryz.prog 379 [.sl (l.map Eqn.pv), .fn (.func f)] (E (idxF p 0 l)):=by
 have hlm:(l.map Eqn.pv).length=l.length:=List.length_map ..;refine eW Tryz.call379 Tryz.func379 ?_;repeat' first|simp only[go_sem,seval,hlm]|refine sB ?_|(first|apply pX|apply bX)<;>intro hc|refine⟨oD,?_⟩|exact oD|fail
 refine loop_run (α:=Nat) (fun i=>l.length-i) (fun i=>⟨[(0, .v (.sl (l.map Eqn.pv))),(1, .v (.fn (.func f))),(7, .v (.i .i64 l.length)),(8, .v (.i .i64 (i:Nat)))],[],_⟩) (fun i=>i≤l.length∧idxF p i (l.drop i)=idxF p 0 l) 0 (fun _=>Nat.le_refl _) ⟨Nat.zero_le _,rfl⟩ ?_ ?_
 ·exact lE
 ·rintro i ⟨hi,hx⟩ R hR;rw[←hx]
  by_cases hlt:i<l.length
  ·have e1:=getD_map Eqn.pv l d0Q hlt;have hf:=h (l.getD i d0Q);have hgo:=hR (i+1);rw[←hx,drop_getD d0Q hlt]at hgo;rw[drop_getD d0Q hlt];simp only[idxF]at hgo⊢;clear hx hR h;obtain⟨b,hb⟩: ∃b,b=p (l.getD i d0Q):=⟨_,rfl⟩;rw[←hb]at hf hgo⊢;clear hb;obtain⟨x,hxx⟩: ∃x,x=l.getD i d0Q:=⟨_,rfl⟩;rw[←hxx]at e1 hf;clear hxx;cases x;simp only[Eqn.pv]at e1 hf;cases b
   ·have hgo:=hgo ⟨by omega,rfl⟩ (by omega)
    repeat' first|simp only[go_sem,seval,hlm,e1]|refine cP hf ?_|refine sB ?_|(first|apply pX|apply bX)<;>intro hc|refine⟨oD,?_⟩|exact oD|fail
    refine hgo _ ?_;exact lE
   ·repeat' first|simp only[go_sem,seval,hlm,e1]|refine cP hf ?_|refine sB ?_|(first|apply pX|apply bX)<;>intro hc|refine⟨oD,?_⟩|exact oD|fail
    all_goals rfl
  ·obtain rfl:i=l.length:=by omega
   rw[List.drop_length];repeat' first|simp only[go_sem,seval,hlm]|refine sB ?_|(first|apply pX|apply bX)<;>intro hc|refine⟨oD,?_⟩|exact oD|fail
   all_goals simp[idxF]
theorem ContainsFuncQ_ok (l:List Eqn) (f:FuncId) (p:Eqn→Bool) (hl:l.length<4611686018427387904) (h: ∀x,EvP Tryz.prog f [Eqn.pv x] (.b (p x))):EvP Tryz.prog 358 [.sl (l.map Eqn.pv), .fn (.func f)] (.b (l.any p)):=by
 have hi:=IndexFuncQ_ok l f p hl h;have e:decide (idxF p 0 l≥0)=l.any p:=by
  rw[Bool.eq_iff_iff,decide_eq_true_iff];exact idxF_neg
 refine eW Tryz.call358 Tryz.func358 ?_;repeat' first|simp only[go_sem,seval,e]|refine cP hi ?_|refine sB ?_|(first|apply pX|apply bX)<;>intro hc|refine⟨oD,?_⟩|exact oD|fail
theorem IndexFuncT_ok (l:List Trm) (f:FuncId) (c:List PV) (p:Trm→Bool) (hl:l.length<4611686018427387904) (h: ∀x,EvP Tryz.prog f (x.pv::c) (.b (p x))):EvP Tryz.prog 380 [.sl (l.map Trm.pv), .fc f [] c] (E (idxF p 0 l)):=by
 have hlm:(l.map Trm.pv).length=l.length:=List.length_map ..;refine eW Tryz.call380 Tryz.func380 ?_;repeat' first|simp only[go_sem,seval,hlm]|refine sB ?_|(first|apply pX|apply bX)<;>intro hc|refine⟨oD,?_⟩|exact oD|fail
 refine loop_run (α:=Nat) (fun i=>l.length-i) (fun i=>⟨[(0, .v (.sl (l.map Trm.pv))),(1, .v (.fc f [] c)),(7, .v (.i .i64 l.length)),(8, .v (.i .i64 (i:Nat)))],[],_⟩) (fun i=>i≤l.length∧idxF p i (l.drop i)=idxF p 0 l) 0 (fun _=>Nat.le_refl _) ⟨Nat.zero_le _,rfl⟩ ?_ ?_
 ·exact lE
 ·rintro i ⟨hi,hx⟩ R hR;rw[←hx]
  by_cases hlt:i<l.length
  ·have e1:=getD_map Trm.pv l d0T hlt;have hf:=h (l.getD i d0T);have hgo:=hR (i+1);rw[←hx,drop_getD d0T hlt]at hgo;rw[drop_getD d0T hlt];simp only[idxF]at hgo⊢;clear hx hR h;obtain⟨b,hb⟩: ∃b,b=p (l.getD i d0T):=⟨_,rfl⟩;rw[←hb]at hf hgo⊢;clear hb;obtain⟨x,hxx⟩: ∃x,x=l.getD i d0T:=⟨_,rfl⟩;rw[←hxx]at e1 hf;clear hxx;cases x;simp only[Trm.pv]at e1 hf;cases b
   ·have hgo:=hgo ⟨by omega,rfl⟩ (by omega)
    repeat' first|simp only[go_sem,seval,hlm,e1]|(refine CR_pure hf (pvA_map _ _) ?_)|refine sB ?_|(first|apply pX|apply bX)<;>intro hc|refine⟨oD,?_⟩|exact oD|fail
    refine hgo _ ?_;exact lE
   ·repeat' first|simp only[go_sem,seval,hlm,e1]|(refine CR_pure hf (pvA_map _ _) ?_)|refine sB ?_|(first|apply pX|apply bX)<;>intro hc|refine⟨oD,?_⟩|exact oD|fail
    all_goals rfl
  ·obtain rfl:i=l.length:=by omega
   rw[List.drop_length];repeat' first|simp only[go_sem,seval,hlm]|refine sB ?_|(first|apply pX|apply bX)<;>intro hc|refine⟨oD,?_⟩|exact oD|fail
   all_goals simp[idxF]
theorem ContainsFuncT_ok (l:List Trm) (f:FuncId) (c:List PV) (p:Trm→Bool) (hl:l.length<4611686018427387904) (h: ∀x,EvP Tryz.prog f (x.pv::c) (.b (p x))):EvP Tryz.prog 360 [.sl (l.map Trm.pv), .fc f [] c] (.b (l.any p)):=by
 have hi:=IndexFuncT_ok l f c p hl h;have e:decide (idxF p 0 l≥0)=l.any p:=by
  rw[Bool.eq_iff_iff,decide_eq_true_iff];exact idxF_neg
 refine eW Tryz.call360 Tryz.func360 ?_;repeat' first|simp only[go_sem,seval,e]|refine cP hi ?_|refine sB ?_|(first|apply pX|apply bX)<;>intro hc|refine⟨oD,?_⟩|exact oD|fail
theorem IndexFuncV_ok (l:List Bytes) (f:FuncId) (p:Bytes→Bool) (hl:l.length<4611686018427387904) (h: ∀x,EvP Tryz.prog f [vpv x] (.b (p x))):EvP Tryz.prog 365 [.sl (l.map vpv), .fn (.func f)] (E (idxF p 0 l)):=by
 have hlm:(l.map vpv).length=l.length:=List.length_map ..;refine eW Tryz.call365 Tryz.func365 ?_;repeat' first|simp only[go_sem,seval,hlm]|refine sB ?_|(first|apply pX|apply bX)<;>intro hc|refine⟨oD,?_⟩|exact oD|fail
 refine loop_run (α:=Nat) (fun i=>l.length-i) (fun i=>⟨[(0, .v (.sl (l.map vpv))),(1, .v (.fn (.func f))),(7, .v (.i .i64 l.length)),(8, .v (.i .i64 (i:Nat)))],[],_⟩) (fun i=>i≤l.length∧idxF p i (l.drop i)=idxF p 0 l) 0 (fun _=>Nat.le_refl _) ⟨Nat.zero_le _,rfl⟩ ?_ ?_
 ·exact lE
 ·rintro i ⟨hi,hx⟩ R hR;rw[←hx]
  by_cases hlt:i<l.length
  ·have e1:=getD_map vpv l [] hlt;have hf:=h (l.getD i []);have hgo:=hR (i+1);rw[←hx,drop_getD [] hlt]at hgo;rw[drop_getD [] hlt];simp only[idxF]at hgo⊢;clear hx hR h;generalize p (l.getD i [])=b at*;generalize l.getD i []=x at*;simp only[vpv]at e1 hf;cases b
   ·have hgo:=hgo ⟨by omega,rfl⟩ (by omega)
    repeat' first|simp only[go_sem,seval,hlm,e1]|refine cP hf ?_|refine sB ?_|(first|apply pX|apply bX)<;>intro hc|refine⟨oD,?_⟩|exact oD|fail
    refine hgo _ ?_;exact lE
   ·repeat' first|simp only[go_sem,seval,hlm,e1]|refine cP hf ?_|refine sB ?_|(first|apply pX|apply bX)<;>intro hc|refine⟨oD,?_⟩|exact oD|fail
    all_goals rfl
  ·obtain rfl:i=l.length:=by omega
   rw[List.drop_length];repeat' first|simp only[go_sem,seval,hlm]|refine sB ?_|(first|apply pX|apply bX)<;>intro hc|refine⟨oD,?_⟩|exact oD|fail
   all_goals simp[idxF]
theorem ContainsFuncV_ok (l:List Bytes) (f:FuncId) (p:Bytes→Bool) (hl:l.length<4611686018427387904) (h: ∀x,EvP Tryz.prog f [vpv x] (.b (p x))):EvP Tryz.prog 319 [.sl (l.map vpv), .fn (.func f)] (.b (l.any p)):=by
 have hi:=IndexFuncV_ok l f p hl h;have e:decide (idxF p 0 l≥0)=l.any p:=by
  rw[Bool.eq_iff_iff,decide_eq_true_iff];exact idxF_neg
 refine eW Tryz.call319 Tryz.func319 ?_;repeat' first|simp only[go_sem,seval,e]|refine cP hi ?_|refine sB ?_|(first|apply pX|apply bX)<;>intro hc|refine⟨oD,?_⟩|exact oD|fail
end Go.Proofs.YtmobkhegihemeaaGreatDoor
namespace Go.Proofs.YtmobkhegihemeaaGreatDoor
open Go Go.Dom Go.Num
set_option maxRecDepth 100000
set_option maxHeartbeats 16000000
theorem lsz1_ok (q:Eqn):EvP Tryz.prog 359 [q.pv] (.b (decide (64<q.terms.length))):=by
 obtain⟨g,t,l⟩:=q;have l4:(l.map Trm.pv).length=l.length:=List.length_map ..;have hd:decide ((l.length:Int)>64)=decide (64<l.length):=by rw[decide_eq_decide];omega
 unfold Eqn.pv;refine eW Tryz.call359 Tryz.func359 ?_;repeat' first|simp only[go_sem,seval,l4,hd]|refine sB ?_|(first|apply pX|apply bX)<;>intro hc|refine⟨oD,?_⟩|exact oD|fail
theorem lel1_ok {m:Bytes} (lm:m.length≤8) {o:Bytes} (lo:o.length≤8) (t:Trm):EvP Tryz.prog 361 [t.pv, .pt (gpv (m,o)) 0] (.b (!gIn m o t.base)):=by
 obtain⟨b,v,n,a⟩:=t;have h:=gIn_ok lm lo b;simp only[Trm.pv,gpv];generalize gIn m o b=z at*;refine eW Tryz.call361 Tryz.func361 ?_;repeat' first|simp only[go_sem,seval]|refine cP h ?_|refine sB ?_|(first|apply pX|apply bX)<;>intro hc|refine⟨oD,?_⟩|exact oD|fail
theorem lk1_ok (b:Bytes):EvP Tryz.prog 362 [vpv b] (.b (b==[])):=by
 unfold vpv;refine eW Tryz.call362 Tryz.func362 ?_;repeat' first|simp only[go_sem,seval]|refine sB ?_|(first|apply pX|apply bX)<;>intro hc|refine⟨oD,?_⟩|exact oD|fail
def ordL:List (Bytes×Bytes)→Bytes
 |[]=>[]
 |g::r=>if g.2=[]then ordL r else g.2
theorem sorder_ok (s:Stm) (hl:s.groups.length<1000000):EvP Tryz.prog 257 [s.pv] (.s (ordL s.groups)):=by
 obtain⟨gs,vs,es⟩:=s;simp only at hl;have l1:(gs.map gpv).length=gs.length:=List.length_map ..;unfold Stm.pv;simp only;refine eW Tryz.call257 Tryz.func257 ?_;repeat' first|simp only[go_sem,seval,l1]|refine sB ?_|(first|apply pX|apply bX)<;>intro hc|refine⟨oD,?_⟩|exact oD|fail
 refine loop_run (α:=Nat) (fun i=>gs.length-i) (fun i=>⟨[(1, .p 1000 0 0),(6, .v (.sl (gs.map gpv))),(7,E' gs.length),(8,E' i)],[(1000,⟨0,[.v (.sl (gs.map gpv)), .v (.sl (vs.map vpv)), .v (.sl (es.map Eqn.pv))],false,none⟩)],_⟩) (fun i=>i≤gs.length∧ordL (gs.drop i)=ordL gs) 0 (fun _=>Nat.le_refl _) ⟨Nat.zero_le _,rfl⟩ ?_ ?_
 ·exact lE
 ·rintro i ⟨hi,hf⟩ R hR;rw[←hf]
  by_cases hlt:i<gs.length
  ·have e1:=getD_map gpv gs d0G hlt;have hgo:=hR (i+1);rw[←hf]at hgo;rw[drop_getD d0G hlt]at hgo⊢;obtain⟨x,hx⟩: ∃x,x=gs.getD i d0G:=⟨_,rfl⟩;rw[←hx]at e1 hgo⊢;clear hx hf hR;obtain⟨m,o⟩:=x;simp only[ordL]at hgo⊢;simp only[gpv]at e1
   by_cases ho:o=[]
   ·subst ho;simp only[if_true]at hgo⊢;have hgo:=hgo ⟨by omega,trivial⟩ (by omega)
    repeat' first|simp only[go_sem,seval,l1,e1,nn]|refine sB ?_|(first|apply pX|apply bX)<;>intro hc|refine⟨oD,?_⟩|exact oD|fail
    refine hgo _ ?_;exact lE
   ·have hb:(o==([]:Bytes))=false:=by simpa using ho
    rw[if_neg ho];repeat' first|simp only[go_sem,seval,l1,e1,hb]|refine sB ?_|(first|apply pX|apply bX)<;>intro hc|refine⟨oD,?_⟩|exact oD|fail
  ·obtain rfl:i=gs.length:=by omega
   rw[List.drop_length];repeat' first|simp only[go_sem,seval,l1]|refine sB ?_|(first|apply pX|apply bX)<;>intro hc|refine⟨oD,?_⟩|exact oD|fail
   all_goals rfl
theorem skind_ok {b:Bytes} (h:b≠[]):EvP Tryz.prog 258 [vpv b] (E 1):=by
 have hb:(b==([]:Bytes))=false:=by simpa using h
 unfold vpv;refine eW Tryz.call258 Tryz.func258 ?_;repeat' first|simp only[go_sem,seval,hb]|refine sB ?_|(first|apply pX|apply bX)<;>intro hc|refine⟨oD,?_⟩|exact oD|fail
structure RuOK (c sl:Bytes):Prop where
 vc:validN c=true
 vs:validN sl=true
 lc:c.length≤8
 ls:sl.length≤8
 c2:2≤num c
 s2:2≤num sl
def limM (c sl b:Bytes):Nat:=num sl*num c*num b
def limR (c sl b:Bytes):Nat:=num sl*num c*num b-(num c-1)*(num b-1)
def limP (c sl b:Bytes):PV:= .agg [N (limM c sl b),N (limR c sl b)]
theorem num16 {b:Bytes} (h:b.length≤16):num b<W128:=Nat.lt_of_lt_of_le (num_lt b) (Nat.pow_le_pow_right (by decide) h)
theorem limM_lt {c sl b:Bytes} (hr:RuOK c sl) (hb:b.length≤16):limM c sl b<LIM:=by
 have h1:num sl*num c<18446744073709551616*18446744073709551616:=Nat.mul_lt_mul'' (num8 hr.ls) (num8 hr.lc);have h2:limM c sl b<18446744073709551616*18446744073709551616*W128:=Nat.mul_lt_mul'' h1 (num16 hb);exact Nat.lt_of_lt_of_le h2 (by unfold LIM W128;decide+kernel)
theorem lim_le {c sl b:Bytes} (hr:RuOK c sl):(num c-1)*(num b-1)≤limM c sl b:=by
 unfold limM;have h1:(num c-1)*(num b-1)≤num c*num b:=Nat.mul_le_mul (by omega) (by omega)
 have h2:num c*num b≤num sl*(num c*num b):=Nat.le_mul_of_pos_left _ (by have:=hr.s2;omega)
 rw[Nat.mul_assoc];omega
theorem sintegral_ok {c sl q b:Bytes} (hr:RuOK c sl) (vb:validN b=true) (hb:b≠[]) (lb:b.length≤16):EvP Tryz.prog 260 [.agg [.s c, .s sl, .s q], .s b] (.tup [limP c sl b,E 0]):=by
 have h64:=w64_lim;have hw:=w256;have hML:=limM_lt hr lb;have hle:=lim_le (b:=b) hr;have hnc:=num8 hr.lc;have hns:=num8 hr.ls;have hnb:=num_pos (canon_of vb) hb;have hb16:=num16 lb;have e1:=N_of hr.vc;have e2:=N_of hr.vs;have e3:=N_of vb;have m1:=mulN (a:=num sl) (b:=num c) (Nat.lt_of_lt_of_le (Nat.mul_lt_mul'' hns hnc) (by unfold LIM;decide+kernel)) (by omega) (by omega)
 have m2:=mulN (a:=num sl*num c) (b:=num b) hML (Nat.lt_of_lt_of_le (Nat.mul_lt_mul'' hns hnc) (by unfold LIM;decide+kernel)) (by have:=w128;omega)
 have s1:=subN (a:=num c) (b:=1) (by have:=hr.c2;omega) (by omega)
 have s2:=subN (a:=num b) (b:=1) (by omega) (by have:=w128;omega)
 have m3:=mulN (a:=num c-1) (b:=num b-1) (by omega) (by omega) (by have:=w128;omega)
 have s3:=subN (a:=num sl*num c*num b) (b:=(num c-1)*(num b-1)) hle hML;rw[e1,e2]at m1;rw[e3]at m2;rw[e1]at s1;rw[e3]at s2;have hP:limP c sl b= .agg [N (num sl*num c*num b),N (num sl*num c*num b-(num c-1)*(num b-1))]:=rfl;rw[hP];clear hML hle hP;generalize num sl*num c*num b=A at*;generalize num sl*num c=B at*;generalize A-(num c-1)*(num b-1)=C at*;generalize (num c-1)*(num b-1)=D at*;refine eW Tryz.call260 Tryz.func260 ?_;repeat' first|simp only[go_sem,seval,one_eq]|refine cP Of1 ?_|refine cP m1 ?_|refine cP m2 ?_|refine cP s1 ?_|refine cP s2 ?_|refine cP m3 ?_|refine cP s3 ?_|refine sB ?_|(first|apply pX|apply bX)<;>intro hc|refine⟨oD,?_⟩|exact oD|fail
theorem sints1_ok (x:Bool×Bytes):EvP Tryz.prog 370 [ipv x] (.b (!izok x)):=by
 obtain⟨n,a⟩:=x;have hv:=iValid_ok n a;have e:izok (n,a)=(validN a&& !(n&&a==[])):=rfl;rw[e];generalize (validN a&& !(n&&a==[]))=b at*;simp only[ipv];refine eW Tryz.call370 Tryz.func370 ?_;repeat' first|simp only[go_sem,seval]|refine cP hv ?_|refine sB ?_|(first|apply pX|apply bX)<;>intro hc|refine⟨oD,?_⟩|exact oD|fail
theorem sints_ok (l:List (Bool×Bytes)) (hl:l.length<1000000):EvP Tryz.prog 337 [.sl (l.map ipv)] (.b (l.all izok)):=by
 have h1:=ContainsFuncI_ok l _ _ (by omega) sints1_ok
 have e:(l.all izok)= !(l.any fun x=> !izok x):=by
  induction l with
  |nil=>rfl
  |cons x l ih=>
   have:=ih (by simp at hl;omega)
   rw[List.all_cons,List.any_cons,this]
   ·cases izok x<;>simp
   ·exact ContainsFuncI_ok l _ _ (by simp at hl;omega) sints1_ok
 rw[e];generalize (l.any fun x=> !izok x)=b at*
 refine eW Tryz.call337 Tryz.func337 ?_;repeat' first|simp only[go_sem,seval]|refine cP h1 ?_|refine sB ?_|(first|apply pX|apply bX)<;>intro hc|refine⟨oD,?_⟩|exact oD|fail
noncomputable def msgT (M:Nat) (l:List (Bool×Bytes)) (x:Nat) (t:Trm):Nat:=
 x*powZ M (powZ M (num t.base) t.neg (num t.abs)) (l.getD t.var.toNat d0I).1 (num (l.getD t.var.toNat d0I).2)%M
noncomputable def msgQ (gs:List (Bytes×Bytes)) (c:Bytes) (l:List (Bool×Bytes)) (q:Eqn):Nat:=
 q.terms.foldl (msgT (num (gs.getD q.grp.toNat d0G).1) l) (powZ (num (gs.getD q.grp.toNat d0G).1) (num q.tgt) (!(c==[])) (num c))
theorem NegFrom_ok {c:Bytes} (vc:validN c=true):EvP Tryz.prog 352 [.agg [.b false, .s c]] (.agg [.b (!(c==[])), .s c]):=by
 have hv:=iValid_ok false c;rw[vc]at hv;have hm:=made_ok true c;rw[Bool.true_and]at hm;refine eW Tryz.call352 Tryz.func352 ?_;repeat' first|simp only[go_sem,seval]|refine cP hv ?_|refine cP hm ?_|refine sB ?_|(first|apply pX|apply bX)<;>intro hc|refine⟨oD,?_⟩|exact oD|fail
theorem smessages_ok {s:Stm} (hs:StM s) (h0:s.eqs≠[]) {c:Bytes} (vc:validN c=true) {l:List (Bool×Bytes)} (hlen:l.length=s.vars.length) (hl: ∀x∈l,izok x=true):EvP Tryz.prog 339 [s.pv, .s c, .sl (l.map ipv)] (.sl (s.eqs.map fun q=>N (msgQ s.groups c l q))):=by
 obtain⟨gs,vs,es⟩:=s;obtain⟨hg,hq,ng,nv,ne⟩:=hs;simp only at hg hq ng nv ne h0 hlen;have hpos:0<es.length:=List.length_pos_iff.2 h0;have l1:(gs.map gpv).length=gs.length:=List.length_map ..;have l3:(es.map Eqn.pv).length=es.length:=List.length_map ..;have l5:(l.map ipv).length=l.length:=List.length_map ..;have fr:=From_ok vc;have ng':=NegFrom_ok vc;have hM:RowOK (fun q=>N (msgQ gs c l q)) 1:=⟨fun _=>rfl,fun _ y hy=>by cases List.mem_singleton.1 hy;rfl,fun _ _=>rfl,fun h=>absurd rfl h⟩
 have row1: ∀{i:Nat},i<es.length→rowF (fun q=>N (msgQ gs c l q)) (es.take (i+1))=rowF (fun q=>N (msgQ gs c l q)) (es.take i)++[.v (N (msgQ gs c l (es.getD i d0Q)))]:=fun h=>by
  rw[take_succ_getD d0Q h,rowF_snoc];rfl
 have rn1:rowF (fun q=>N (msgQ gs c l q)) []=[]:=rfl
 unfold Stm.pv;simp only;refine eW Tryz.call339 Tryz.func339 ?_;repeat' first|simp only[go_sem,seval,l3]|refine sB ?_|(first|apply pX|apply bX)<;>intro hc|refine⟨oD,?_⟩|exact oD|fail
 refine loop_unroll' ?_;have e1:=getD_map Eqn.pv es d0Q hpos;obtain⟨q1,q2,q3,q4,q5⟩:=hq _ (mem_getD d0Q hpos);have r1:=row1 hpos;obtain⟨x,hx⟩: ∃x,x=es.getD 0 d0Q:=⟨_,rfl⟩;rw[←hx]at e1 q1 q2 q3 q4 q5 r1;clear hx;obtain⟨gr,tg,ts⟩:=x;simp only at q1 q2 q3 q4 q5;have hgl:gr.toNat<gs.length:=by omega
 have kg:=hg _ (mem_getD d0G hgl);have e3:=getD_map gpv gs d0G hgl;have hmQ:msgQ gs c l ⟨gr,tg,ts⟩=ts.foldl (msgT (num (gs.getD gr.toNat d0G).1) l) (powZ (num (gs.getD gr.toNat d0G).1) (num tg) (!(c==[])) (num c)):=rfl;obtain⟨z,hz⟩: ∃z,z=gs.getD gr.toNat d0G:=⟨_,rfl⟩;rw[←hz]at q3 q5 kg e3 hmQ;clear hz;obtain⟨m,o⟩:=z;simp only at q3 q5 kg hmQ;obtain⟨vt,gt⟩:=(gHas_iff kg.1).1 q3;have m1:=(gE_m kg.1).2.2.1;have hzc:(!(c==[])&&c==[])=false:=by cases(c==([]:Bytes))<;>rfl
 have xe:=gExp_ok kg.2.1 kg.2.2 kg.1 gt vc hzc;rw[N_of vt]at xe;have gx0:=gt.powZ m1 (!(c==[])) (num c);obtain⟨x0,hx0⟩: ∃x0,x0=powZ (num m) (num tg) (!(c==[])) (num c):=⟨_,rfl⟩;rw[←hx0]at xe gx0 hmQ;rw[hmQ]at r1;clear hx0 hmQ gt vt;have l4:(ts.map Trm.pv).length=ts.length:=List.length_map ..;simp only[gpv]at e3;simp only[Eqn.pv]at e1;repeat' first|simp only[go_sem,seval,l1,l3,e1,e3,l4]|refine cP fr ?_|refine cP ng' ?_|refine cP xe ?_|refine sB ?_|(first|apply pX|apply bX)<;>intro hc|refine⟨oD,?_⟩|exact oD|fail
 refine loop_run (α:=Nat×Nat) (fun s=>ts.length-s.1) (fun s=>⟨[(1, .v (.s c)),(2, .v (.sl (l.map ipv))),(3, .p 1000 0 0),(7, .sn),(18, .v (.sl (es.map Eqn.pv))),(19,E' es.length),(20,E' 0),(10, .p 1018 0 0),(11, .v (N s.2)),(41, .v (.sl (ts.map Trm.pv))),(42,E' ts.length),(43,E' s.1)],[(1000,⟨0,[.v (.sl (gs.map gpv)), .v (.sl (vs.map vpv)), .v (.sl (es.map Eqn.pv))],false,none⟩),(1018,⟨0,[.v (.s m), .v (.s o)],false,some 24⟩)],1036⟩) (fun s=>s.1≤ts.length∧GP m o s.2∧(ts.drop s.1).foldl (msgT (num m) l) s.2=ts.foldl (msgT (num m) l) x0) (0,x0) (fun _=>Nat.le_of_ble_eq_true rfl) ⟨Nat.zero_le _,gx0,rfl⟩ ?_ ?_
 ·(refine AS.Le.of (by first|decide|omega) ?_ ?_<;>simp[LeT,LeH,tget,hget,AV.bd,AV.bd.bdL,u8,bd_cellsOf,bcells_bd,icells_bd])
  skip
 ·rintro⟨j,x⟩ ⟨hj,gx,hf⟩ R' hR';simp only at hj gx hf
  by_cases hjt:j<ts.length
  ·have e2:=getD_map Trm.pv ts d0T hjt;obtain⟨t1,t2,t3,t4⟩:=q5 _ (mem_getD d0T hjt);rw[drop_getD d0T hjt]at hf;obtain⟨y,hy⟩: ∃y,y=ts.getD j d0T:=⟨_,rfl⟩;rw[←hy]at e2 t1 t2 t3 t4 hf;obtain⟨b,v,n,a⟩:=y;simp only at t1 t2 t3 t4;rw[List.foldl_cons]at hf;obtain⟨kb1,kb2⟩:=(gHas_iff kg.1).1 t3;have hvl:v.toNat<l.length:=by omega
   have e4:=getD_map ipv l d0I hvl;have kr:=hl _ (mem_getD d0I hvl);have hmT:msgT (num m) l x ⟨b,v,n,a⟩=x*powZ (num m) (powZ (num m) (num b) n (num a)) (l.getD v.toNat d0I).1 (num (l.getD v.toNat d0I).2)%num m:=rfl;obtain⟨w,hw⟩: ∃w,w=l.getD v.toNat d0I:=⟨_,rfl⟩;rw[←hw]at e4 kr hmT;obtain⟨rn,ra⟩:=w;simp only[izok,Bool.and_eq_true,Bool.not_eq_true']at t4 kr;have m1:=(gE_m kg.1).2.2.1;have x1:=gExp_ok kg.2.1 kg.2.2 kg.1 kb2 t4.1 t4.2;rw[N_of kb1]at x1;have gy:=kb2.powZ m1 n (num a);have x2:=gExp_ok kg.2.1 kg.2.2 kg.1 gy kr.1 kr.2;have gz:=gy.powZ m1 rn (num ra);have x3:=gMul_ok kg.2.1 kg.2.2 kg.1 gx gz;have hgo':=hR' (j+1,msgT (num m) l x ⟨b,v,n,a⟩) ⟨by show j+1≤ _;omega,by rw[hmT];exact gx.mul gz,hf⟩ (by show ts.length-(j+1)<ts.length-j;omega)
   rw[hmT]at hgo';clear hR' hy t3 t4 q5 hf hw kb1 kb2 gx gy gz hmT kr;simp only[Trm.pv]at e2;simp only[ipv]at e4;have hd3: ∀ _:True,v<(l.length:Int):=fun _=>by omega
   generalize powZ (num m) (powZ (num m) (num b) n (num a)) rn (num ra)=z at*;generalize powZ (num m) (num b) n (num a)=y at*;repeat' first|simp only[go_sem,seval,l3,l4,l5,e2,e4]|refine cP x1 ?_|refine cP x2 ?_|refine cP x3 ?_|refine sB ?_|(first|apply pX|apply bX)<;>intro hc|refine⟨oD,?_⟩|exact oD|fail
   refine hgo' _ ?_
   (refine AS.Le.of (by first|decide|omega) ?_ ?_<;>simp[LeT,LeH,tget,hget,AV.bd,AV.bd.bdL,u8,bd_cellsOf,bcells_bd,icells_bd])
   skip
  ·obtain rfl:j=ts.length:=by omega
   rw[List.drop_length]at hf;simp only[List.foldl_nil]at hf;subst hf;repeat' first|simp only[go_sem,seval,l3,l4]|refine sB ?_|(first|apply pX|apply bX)<;>intro hc|refine⟨oD,?_⟩|exact oD|fail
   refine loop_run (α:=Nat) (fun j=>es.length-(j+1)) (fun j=>⟨[(1, .v (.s c)),(2, .v (.sl (l.map ipv))),(3, .p 1000 0 0),(7, .rs 1040 j 0 (j+1) 1),(18, .v (.sl (es.map Eqn.pv))),(19,E' es.length),(20,E' (j+1))],[(1000,⟨0,[.v (.sl (gs.map gpv)), .v (.sl (vs.map vpv)), .v (.sl (es.map Eqn.pv))],false,none⟩),(1040,⟨j,rowF (fun q=>N (msgQ gs c l q)) (es.take (j+1)),true,some 22⟩)],1044⟩) (fun j=>j+1≤es.length) 0 (fun _=>Nat.le_of_ble_eq_true rfl) hpos ?_ ?_
   ·rw[Nat.zero_add,r1,List.take_zero,rn1];exact lE
   ·clear e1 e3 q1 q2 q3 q4 q5 kg gx0 xe r1 l4;intro i hi R hR;have hj1:(es.take (i+1)).length=i+1:=by rw[List.length_take];omega
    have p1:=rowF_len hM (es.take (i+1));have p2:=rowF_take hM (es.take (i+1));rw[hj1,Nat.mul_one]at p1 p2;have hw1: ∀ _:True,((i:Int)+1)=((i+1:Nat):Int):=fun _=>by omega
    by_cases hlt:i+1<es.length
    ·have hgo:=hR (i+1) (by omega) (by omega)
     clear hR;have e1:=getD_map Eqn.pv es d0Q hlt;obtain⟨q1,q2,q3,q4,q5⟩:=hq _ (mem_getD d0Q hlt);have r1:=row1 hlt;obtain⟨x,hx⟩: ∃x,x=es.getD (i+1) d0Q:=⟨_,rfl⟩;rw[←hx]at e1 q1 q2 q3 q4 q5 r1;clear hx;obtain⟨gr,tg,ts⟩:=x;simp only at q1 q2 q3 q4 q5;have hgl:gr.toNat<gs.length:=by omega
     have kg:=hg _ (mem_getD d0G hgl);have e3:=getD_map gpv gs d0G hgl;have hmQ:msgQ gs c l ⟨gr,tg,ts⟩=ts.foldl (msgT (num (gs.getD gr.toNat d0G).1) l) (powZ (num (gs.getD gr.toNat d0G).1) (num tg) (!(c==[])) (num c)):=rfl;obtain⟨z,hz⟩: ∃z,z=gs.getD gr.toNat d0G:=⟨_,rfl⟩;rw[←hz]at q3 q5 kg e3 hmQ;clear hz;obtain⟨m,o⟩:=z;simp only at q3 q5 kg hmQ;obtain⟨vt,gt⟩:=(gHas_iff kg.1).1 q3;have m1:=(gE_m kg.1).2.2.1;have hzc:(!(c==[])&&c==[])=false:=by cases(c==([]:Bytes))<;>rfl
     have xe:=gExp_ok kg.2.1 kg.2.2 kg.1 gt vc hzc;rw[N_of vt]at xe;have gx0:=gt.powZ m1 (!(c==[])) (num c);obtain⟨x0,hx0⟩: ∃x0,x0=powZ (num m) (num tg) (!(c==[])) (num c):=⟨_,rfl⟩;rw[←hx0]at xe gx0 hmQ;rw[hmQ]at r1;clear hx0 hmQ gt vt;have l4:(ts.map Trm.pv).length=ts.length:=List.length_map ..;simp only[gpv]at e3;simp only[Eqn.pv]at e1;rw[r1]at hgo;repeat' first|simp only[go_sem,seval,l1,l3,e1,e3,l4]|refine cP fr ?_|refine cP ng' ?_|refine cP xe ?_|refine sB ?_|(first|apply pX|apply bX)<;>intro hc|refine⟨oD,?_⟩|exact oD|fail
     refine loop_run (α:=Nat×Nat) (fun s=>ts.length-s.1) (fun s=>⟨[(1, .v (.s c)),(2, .v (.sl (l.map ipv))),(3, .p 1000 0 0),(7, .rs 1040 i 0 (i+1) 1),(18, .v (.sl (es.map Eqn.pv))),(19,E' es.length),(20,E' (i+1)),(10, .p 1055 0 0),(11, .v (N s.2)),(41, .v (.sl (ts.map Trm.pv))),(42,E' ts.length),(43,E' s.1)],[(1000,⟨0,[.v (.sl (gs.map gpv)), .v (.sl (vs.map vpv)), .v (.sl (es.map Eqn.pv))],false,none⟩),(1055,⟨0,[.v (.s m), .v (.s o)],false,some 24⟩),(1040,⟨i,rowF (fun q=>N (msgQ gs c l q)) (es.take (i+1)),true,some 22⟩)],1073⟩) (fun s=>s.1≤ts.length∧GP m o s.2∧(ts.drop s.1).foldl (msgT (num m) l) s.2=ts.foldl (msgT (num m) l) x0) (0,x0) (fun _=>Nat.le_of_ble_eq_true rfl) ⟨Nat.zero_le _,gx0,rfl⟩ ?_ ?_
     ·(refine AS.Le.of (by first|decide|omega) ?_ ?_<;>simp[LeT,LeH,tget,hget,AV.bd,AV.bd.bdL,u8,bd_cellsOf,bcells_bd,icells_bd])
      all_goals (intro c hc;exact bd_row hc)
     ·rintro⟨j,x⟩ ⟨hj,gx,hf⟩ R' hR';simp only at hj gx hf
      by_cases hjt:j<ts.length
      ·have e2:=getD_map Trm.pv ts d0T hjt;obtain⟨t1,t2,t3,t4⟩:=q5 _ (mem_getD d0T hjt);rw[drop_getD d0T hjt]at hf;obtain⟨y,hy⟩: ∃y,y=ts.getD j d0T:=⟨_,rfl⟩;rw[←hy]at e2 t1 t2 t3 t4 hf;obtain⟨b,v,n,a⟩:=y;simp only at t1 t2 t3 t4;rw[List.foldl_cons]at hf;obtain⟨kb1,kb2⟩:=(gHas_iff kg.1).1 t3;have hvl:v.toNat<l.length:=by omega
       have e4:=getD_map ipv l d0I hvl;have kr:=hl _ (mem_getD d0I hvl);have hmT:msgT (num m) l x ⟨b,v,n,a⟩=x*powZ (num m) (powZ (num m) (num b) n (num a)) (l.getD v.toNat d0I).1 (num (l.getD v.toNat d0I).2)%num m:=rfl;obtain⟨w,hw⟩: ∃w,w=l.getD v.toNat d0I:=⟨_,rfl⟩;rw[←hw]at e4 kr hmT;obtain⟨rn,ra⟩:=w;simp only[izok,Bool.and_eq_true,Bool.not_eq_true']at t4 kr;have m1:=(gE_m kg.1).2.2.1;have x1:=gExp_ok kg.2.1 kg.2.2 kg.1 kb2 t4.1 t4.2;rw[N_of kb1]at x1;have gy:=kb2.powZ m1 n (num a);have x2:=gExp_ok kg.2.1 kg.2.2 kg.1 gy kr.1 kr.2;have gz:=gy.powZ m1 rn (num ra);have x3:=gMul_ok kg.2.1 kg.2.2 kg.1 gx gz;have hgo':=hR' (j+1,msgT (num m) l x ⟨b,v,n,a⟩) ⟨by show j+1≤ _;omega,by rw[hmT];exact gx.mul gz,hf⟩ (by show ts.length-(j+1)<ts.length-j;omega)
       rw[hmT]at hgo';clear hR' hy t3 t4 q5 hf hw kb1 kb2 gx gy gz hmT kr;simp only[Trm.pv]at e2;simp only[ipv]at e4;have hd3: ∀ _:True,v<(l.length:Int):=fun _=>by omega
       generalize powZ (num m) (powZ (num m) (num b) n (num a)) rn (num ra)=z at*;generalize powZ (num m) (num b) n (num a)=y at*;repeat' first|simp only[go_sem,seval,l3,l4,l5,e2,e4]|refine cP x1 ?_|refine cP x2 ?_|refine cP x3 ?_|refine sB ?_|(first|apply pX|apply bX)<;>intro hc|refine⟨oD,?_⟩|exact oD|fail
       refine hgo' _ ?_
       (refine AS.Le.of (by first|decide|omega) ?_ ?_<;>simp[LeT,LeH,tget,hget,AV.bd,AV.bd.bdL,u8,bd_cellsOf,bcells_bd,icells_bd])
       all_goals (intro c hc;exact bd_row hc)
      ·obtain rfl:j=ts.length:=by omega
       rw[List.drop_length]at hf;simp only[List.foldl_nil]at hf;subst hf;repeat' first|simp only[go_sem,seval,l3,l4,p1,p2]|refine sB ?_|(first|apply pX|apply bX)<;>intro hc|refine⟨oD,?_⟩|exact oD|fail
       refine hgo _ ?_
       (refine AS.Le.of (by first|decide|omega) ?_ ?_<;>simp[LeT,LeH,tget,hget,AV.bd,AV.bd.bdL,u8,bd_cellsOf,bcells_bd,icells_bd])
       all_goals (intro c hc;rcases hc with h|h<;>first|exact bd_row h|(subst h;rfl))
    ·obtain hjv:i+1=es.length:=by omega
     rw[hjv,List.take_length]at p1 p2;rw[hjv,List.take_length];have p3:=rowF_all hM es;have p4:chunk 1 es.length (List.flatMap (fun x=>[PV.s (bts (msgQ gs c l x))]) es)=es.map fun q=>N (msgQ gs c l q):=rowF_chunk hM es
     repeat' first|simp only[go_sem,seval,l3,p1,p2,p3,p4,rowF_mapO]|refine sB ?_|(first|apply pX|apply bX)<;>intro hc|refine⟨oD,?_⟩|exact oD|fail
end Go.Proofs.YtmobkhegihemeaaGreatDoor
