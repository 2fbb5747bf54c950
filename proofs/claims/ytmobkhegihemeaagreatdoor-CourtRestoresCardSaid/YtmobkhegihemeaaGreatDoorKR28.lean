/-
  Part of the proof, part KR28. Own work.
-/
import Derived.Test.YtmobkhegihemeaaGreatDoorKR27
set_option linter.all false
namespace Go.Dom
structure cC {α:Type} (f:α→PV) (z:Nat):Prop where
 len: ∀x,(f x).cells.length=z
 one: ∀x,∀y∈(f x).cells,y.one=true
 z1:z=1→ ∀x,(f x).cells=[f x]
 zn:z≠1→ ∀x,f x= .agg (f x).cells
def aQ {α:Type} (f:α→PV) (l:List α):List AV:=(l.flatMap fun x=>(f x).cells).map AV.v
variable {α:Type} {f:α→PV} {z:Nat}
theorem cC.s:cC PV.s 1:=⟨fun _=>rfl,fun _ y hy=>by cases List.mem_singleton.1 hy;rfl,fun _ _=>rfl,fun h=>absurd rfl h⟩
theorem Cc (h:cC f z) (l:List α):(l.flatMap fun x=>(f x).cells).length=l.length*z:=by
 induction l with
 |nil=>simp
 |cons x l ih=>rw[List.flatMap_cons,List.length_append,ih,h.len,List.length_cons,Nat.succ_mul];omega
theorem a9 (h:cC f z) (l:List α):(aQ f l).length=l.length*z:=by rw[aQ,List.length_map,Cc h]
theorem a5 (h:cC f z) (l:List α):(aQ f l).take (l.length*z)=aQ f l:=List.take_of_length_le (by rw[a9 h];exact Nat.le_refl _)
theorem ct (h:cC f z) (l:List α):(aQ f l).all AV.one=true:=by
 rw[List.all_eq_true];intro y hy;obtain⟨c,hc,rfl⟩:=List.mem_map.1 hy;obtain⟨x,-,hx⟩:=List.mem_flatMap.1 hc;exact h.one x c hx
theorem cj (hf:Nat→Option aq) (k:Nat) (l:List α):aI (view hf (k+1)) (aQ f l)=some (l.flatMap fun x=>(f x).cells):=dx _ _ _
theorem ia (hf:Nat→Option aq) (k:Nat) (l:List α):(aQ f l).flatMap (aH hf (k+1))=[]:=by
 unfold aQ
 induction (l.flatMap fun x=>(f x).cells)with
 |nil=>rfl
 |cons x l ih=>simp_all[aH]
theorem bj (h:cC f z) (l:List α):chunk z l.length (l.flatMap fun x=>(f x).cells)=l.map f:=by
 induction l with
 |nil=>rfl
 |cons x l ih=>
  have hl:=h.len x;rw[List.length_cons,List.flatMap_cons,chunk,List.drop_left' hl,ih,List.map_cons];congr 1
  by_cases h1:z=1
  ·rw[if_pos h1,h.z1 h1 x];rfl
  ·rw[if_neg h1,List.take_left' hl];exact(h.zn h1 x).symm
theorem cb {l:List α} {c:AV} {n:Nat} (h:c∈aQ f l):c.bd n=true:=by
 obtain⟨x,-,rfl⟩:=List.mem_map.1 h;rfl
theorem bz (l:List α) (x:α):aQ f (l++[x])=aQ f l++(f x).cells.map AV.v:=by
 simp[aQ,List.flatMap_append]
theorem nR (h: ∀x,(f x).cells=[f x]) (l:List α) (d:α) {i:Nat} (hi:i<l.length):(aQ f l).getD i .u= .v (f (l.getD i d)):=by
 have e:aQ f l=l.map fun x=>AV.v (f x):=by
  unfold aQ;clear hi
  induction l with
  |nil=>rfl
  |cons x l ih=>rw[List.flatMap_cons,h x,List.map_append,ih];rfl
 rw[e];simp[List.getD_eq_getElem?_getD,hi]
theorem Di (h:cC f z) {hf:Nat→Option aq} {k n ver:Nat} {gr:Bool} {el:Option TypeId} {l:List α} {m:Nat} (hm:m=l.length) (hg:hf n=some ⟨ver,aQ f l,gr,el⟩):view hf (k+2) (.rs n ver 0 m z)=some (.sl (l.map f)):=by
 subst hm;have h1:=a9 h l;have h2:=ct h l;have h3:=a5 h l;simp[view,hg,h1,h2,h3,cj,bj h]
theorem zQ (h:cC f z) {hf:Nat→Option aq} {k n ver:Nat} {gr:Bool} {el:Option TypeId} {l:List α} {m:Nat} (hm:m=l.length) (hg:hf n=some ⟨ver,aQ f l,gr,el⟩):aH hf (k+2) (.rs n ver 0 m z)=[n]:=by
 subst hm;simp[aH,hg,a5 h,ia]
theorem aN {α:Type} {l:List α} {i:Nat} (d:α) (h:i<l.length):l.take (i+1)=l.take i++[l.getD i d]:=by
 rw[List.take_succ,List.getElem?_eq_getElem h,List.getD_eq_getElem?_getD,List.getElem?_eq_getElem h];rfl
theorem im {α:Type} (l:List α) (p:α→Bool):(l.any fun x=> !p x)= !l.all p:=by
 induction l with
 |nil=>rfl
 |cons x l ih=>rw[List.any_cons,List.all_cons,ih];cases p x<;>simp
end Go.Dom
namespace Go.Proofs.YtmobkhegihemeaaGreatDoor
open Go Go.Dom Go.Num
set_option maxRecDepth 100000
set_option maxHeartbeats 8000000
structure dL where
 (base:Bytes) (var:Int) (neg:Bool) (abs:Bytes)
def dL.pv:dL→PV
 |⟨b,v,n,a⟩=> .agg [.s b, .i .i64 v, .b n, .s a]
structure cG where
 (iE:Int) (tgt:Bytes) (terms:List dL)
def cG.pv:cG→PV
 |⟨g,t,l⟩=> .agg [.i .i64 g, .s t, .sl (l.map dL.pv)]
def dU:Bytes×Bytes→PV
 |(m,o)=> .agg [.s m, .s o]
def bV (b:Bytes):PV:= .agg [.s b]
def cu:Bool×Bytes→PV
 |(n,a)=> .agg [.b n, .s a]
structure bQ where
 (groups:List (Bytes×Bytes)) (vars:List Bytes) (eqs:List cG)
def bQ.pv (s:bQ):PV:= .agg [.sl (s.groups.map dU), .sl (s.vars.map bV), .sl (s.eqs.map cG.pv)]
def gJ (z:Int):Bool×Bytes:=(zs z,zb z)
theorem IJ (z:Int):cu (gJ z)=Z z:=rfl
def Zp (z:Int):PV:=cu (gJ z)
def bH (x:Bool×Bytes):Bool:=aa x.2&& !(x.1&&x.2==[])
def fV:dL:=⟨[],0,false,[]⟩
def gH:cG:=⟨0,[],[]⟩
def ed:Bytes×Bytes:=([],[])
def ie:Bool×Bytes:=(false,[])
structure Oh (s:bQ):Prop where
 g: ∀p∈s.groups,gE p.1 p.2=0∧p.1.length≤8∧p.2.length≤8
 v: ∀b∈s.vars,aa b=true∧b≠[]∧b.length≤16
 q: ∀q∈s.eqs,0≤q.iE∧q.iE<s.groups.length∧fW (s.groups.getD q.iE.toNat ed).1 (s.groups.getD q.iE.toNat ed).2 q.tgt=true∧q.terms.length≤64∧
  ∀t∈q.terms,0≤t.var∧t.var<s.vars.length∧fW (s.groups.getD q.iE.toNat ed).1 (s.groups.getD q.iE.toNat ed).2 t.base=true∧bH (t.neg,t.abs)=true
 ng:s.groups.length≤8
 nv:s.vars.length≤64
 ne:s.eqs.length≤64
structure Qp (s:bQ):Prop where
 g: ∀p∈s.groups,gE p.1 p.2=0∧p.1.length≤8∧p.2.length≤8
 q: ∀q∈s.eqs,0≤q.iE∧q.iE<s.groups.length∧fW (s.groups.getD q.iE.toNat ed).1 (s.groups.getD q.iE.toNat ed).2 q.tgt=true∧q.terms.length≤64∧
  ∀t∈q.terms,0≤t.var∧t.var<s.vars.length∧fW (s.groups.getD q.iE.toNat ed).1 (s.groups.getD q.iE.toNat ed).2 t.base=true∧bH (t.neg,t.abs)=true
 ng:s.groups.length≤8
 nv:s.vars.length≤64
 ne:s.eqs.length≤64
theorem Oh.m {s:bQ} (h:Oh s):Qp s:=⟨h.g,h.q,h.ng,h.nv,h.ne⟩
theorem getD_map {α:Type} (f:α→PV) (l:List α) (d:α) {i:Nat} (h:i<l.length):(l.map f).getD i .fn0=f (l.getD i d):=by
 simp[List.getD_eq_getElem?_getD,h]
theorem aJ {α:Type} {l:List α} {i:Nat} (d:α) (h:i<l.length):l.drop i=l.getD i d::l.drop (i+1):=by
 rw[List.drop_eq_getElem_cons h,List.getD_eq_getElem?_getD,List.getElem?_eq_getElem h];rfl
theorem au {α:Type} {l:List α} {i:Nat} (d:α) (h:i<l.length):l.getD i d∈l:=by
 rw[List.getD_eq_getElem?_getD,List.getElem?_eq_getElem h];exact List.getElem_mem h
theorem kV {m o x:Bytes} (hE:gE m o=0) (h:fW m o x=true):aa x=true:=((a7 hE).1 h).1
theorem ry (l:List (Bool×Bytes)) (f:FuncId) (p:(Bool×Bytes)→Bool) (hl:l.length<4611686018427387904) (h: ∀x,aB Tryz.prog f [cu x] (.b (p x))):aB Tryz.prog 251 [.sl (l.map cu), .fn (.func f)] (E (bU p 0 l)):=by
 have hlm:(l.map cu).length=l.length:=List.length_map ..;refine eW Tryz.call251 Tryz.func251 ?_;repeat' first|simp only[go_sem,seval,hlm]|refine sB ?_|(first|apply pX|apply bX)<;>intro hc|refine⟨oD,?_⟩|exact oD|fail
 refine aj (α:=Nat) (fun i=>l.length-i) (fun i=>⟨[(0, .v (.sl (l.map cu))),(1, .v (.fn (.func f))),(7, .v (.i .i64 l.length)),(8, .v (.i .i64 (i:Nat)))],[],_⟩) (fun i=>i≤l.length∧bU p i (l.drop i)=bU p 0 l) 0 (fun _=>Nat.le_refl _) ⟨Nat.zero_le _,rfl⟩ ?_ ?_
 ·exact lE
 ·rintro i ⟨hi,hx⟩ R hR;rw[←hx]
  by_cases hlt:i<l.length
  ·have e1:=getD_map cu l ie hlt;have hf:=h (l.getD i ie);have hgo:=hR (i+1);rw[←hx,aJ ie hlt]at hgo;rw[aJ ie hlt];simp only[bU]at hgo⊢;clear hx hR h;obtain⟨b,hb⟩: ∃b,b=p (l.getD i ie):=⟨_,rfl⟩;rw[←hb]at hf hgo⊢;clear hb;obtain⟨x,hxx⟩: ∃x,x=l.getD i ie:=⟨_,rfl⟩;rw[←hxx]at e1 hf;clear hxx;cases x;simp only[cu]at e1 hf;cases b
   ·have hgo:=hgo ⟨by omega,rfl⟩ (by omega)
    repeat' first|simp only[go_sem,seval,hlm,e1]|refine cP hf ?_|refine sB ?_|(first|apply pX|apply bX)<;>intro hc|refine⟨oD,?_⟩|exact oD|fail
    refine hgo _ ?_;exact lE
   ·repeat' first|simp only[go_sem,seval,hlm,e1]|refine cP hf ?_|refine sB ?_|(first|apply pX|apply bX)<;>intro hc|refine⟨oD,?_⟩|exact oD|fail
    all_goals rfl
  ·obtain rfl:i=l.length:=by omega
   rw[List.drop_length];repeat' first|simp only[go_sem,seval,hlm]|refine sB ?_|(first|apply pX|apply bX)<;>intro hc|refine⟨oD,?_⟩|exact oD|fail
   all_goals simp[bU]
theorem dm (l:List (Bool×Bytes)) (f:FuncId) (p:(Bool×Bytes)→Bool) (hl:l.length<4611686018427387904) (h: ∀x,aB Tryz.prog f [cu x] (.b (p x))):aB Tryz.prog 172 [.sl (l.map cu), .fn (.func f)] (.b (l.any p)):=by
 have hi:=ry l f p hl h;have e:decide (bU p 0 l≥0)=l.any p:=by
  rw[Bool.eq_iff_iff,decide_eq_true_iff];exact ek
 refine eW Tryz.call172 Tryz.func172 ?_;repeat' first|simp only[go_sem,seval,e]|refine cP hi ?_|refine sB ?_|(first|apply pX|apply bX)<;>intro hc|refine⟨oD,?_⟩|exact oD|fail
theorem rC (l:List cG) (f:FuncId) (p:cG→Bool) (hl:l.length<4611686018427387904) (h: ∀x,aB Tryz.prog f [cG.pv x] (.b (p x))):aB Tryz.prog 379 [.sl (l.map cG.pv), .fn (.func f)] (E (bU p 0 l)):=by
 have hlm:(l.map cG.pv).length=l.length:=List.length_map ..;refine eW Tryz.call379 Tryz.func379 ?_;repeat' first|simp only[go_sem,seval,hlm]|refine sB ?_|(first|apply pX|apply bX)<;>intro hc|refine⟨oD,?_⟩|exact oD|fail
 refine aj (α:=Nat) (fun i=>l.length-i) (fun i=>⟨[(0, .v (.sl (l.map cG.pv))),(1, .v (.fn (.func f))),(7, .v (.i .i64 l.length)),(8, .v (.i .i64 (i:Nat)))],[],_⟩) (fun i=>i≤l.length∧bU p i (l.drop i)=bU p 0 l) 0 (fun _=>Nat.le_refl _) ⟨Nat.zero_le _,rfl⟩ ?_ ?_
 ·exact lE
 ·rintro i ⟨hi,hx⟩ R hR;rw[←hx]
  by_cases hlt:i<l.length
  ·have e1:=getD_map cG.pv l gH hlt;have hf:=h (l.getD i gH);have hgo:=hR (i+1);rw[←hx,aJ gH hlt]at hgo;rw[aJ gH hlt];simp only[bU]at hgo⊢;clear hx hR h;obtain⟨b,hb⟩: ∃b,b=p (l.getD i gH):=⟨_,rfl⟩;rw[←hb]at hf hgo⊢;clear hb;obtain⟨x,hxx⟩: ∃x,x=l.getD i gH:=⟨_,rfl⟩;rw[←hxx]at e1 hf;clear hxx;cases x;simp only[cG.pv]at e1 hf;cases b
   ·have hgo:=hgo ⟨by omega,rfl⟩ (by omega)
    repeat' first|simp only[go_sem,seval,hlm,e1]|refine cP hf ?_|refine sB ?_|(first|apply pX|apply bX)<;>intro hc|refine⟨oD,?_⟩|exact oD|fail
    refine hgo _ ?_;exact lE
   ·repeat' first|simp only[go_sem,seval,hlm,e1]|refine cP hf ?_|refine sB ?_|(first|apply pX|apply bX)<;>intro hc|refine⟨oD,?_⟩|exact oD|fail
    all_goals rfl
  ·obtain rfl:i=l.length:=by omega
   rw[List.drop_length];repeat' first|simp only[go_sem,seval,hlm]|refine sB ?_|(first|apply pX|apply bX)<;>intro hc|refine⟨oD,?_⟩|exact oD|fail
   all_goals simp[bU]
theorem mS (l:List cG) (f:FuncId) (p:cG→Bool) (hl:l.length<4611686018427387904) (h: ∀x,aB Tryz.prog f [cG.pv x] (.b (p x))):aB Tryz.prog 358 [.sl (l.map cG.pv), .fn (.func f)] (.b (l.any p)):=by
 have hi:=rC l f p hl h;have e:decide (bU p 0 l≥0)=l.any p:=by
  rw[Bool.eq_iff_iff,decide_eq_true_iff];exact ek
 refine eW Tryz.call358 Tryz.func358 ?_;repeat' first|simp only[go_sem,seval,e]|refine cP hi ?_|refine sB ?_|(first|apply pX|apply bX)<;>intro hc|refine⟨oD,?_⟩|exact oD|fail
theorem rD (l:List dL) (f:FuncId) (c:List PV) (p:dL→Bool) (hl:l.length<4611686018427387904) (h: ∀x,aB Tryz.prog f (x.pv::c) (.b (p x))):aB Tryz.prog 380 [.sl (l.map dL.pv), .fc f [] c] (E (bU p 0 l)):=by
 have hlm:(l.map dL.pv).length=l.length:=List.length_map ..;refine eW Tryz.call380 Tryz.func380 ?_;repeat' first|simp only[go_sem,seval,hlm]|refine sB ?_|(first|apply pX|apply bX)<;>intro hc|refine⟨oD,?_⟩|exact oD|fail
 refine aj (α:=Nat) (fun i=>l.length-i) (fun i=>⟨[(0, .v (.sl (l.map dL.pv))),(1, .v (.fc f [] c)),(7, .v (.i .i64 l.length)),(8, .v (.i .i64 (i:Nat)))],[],_⟩) (fun i=>i≤l.length∧bU p i (l.drop i)=bU p 0 l) 0 (fun _=>Nat.le_refl _) ⟨Nat.zero_le _,rfl⟩ ?_ ?_
 ·exact lE
 ·rintro i ⟨hi,hx⟩ R hR;rw[←hx]
  by_cases hlt:i<l.length
  ·have e1:=getD_map dL.pv l fV hlt;have hf:=h (l.getD i fV);have hgo:=hR (i+1);rw[←hx,aJ fV hlt]at hgo;rw[aJ fV hlt];simp only[bU]at hgo⊢;clear hx hR h;obtain⟨b,hb⟩: ∃b,b=p (l.getD i fV):=⟨_,rfl⟩;rw[←hb]at hf hgo⊢;clear hb;obtain⟨x,hxx⟩: ∃x,x=l.getD i fV:=⟨_,rfl⟩;rw[←hxx]at e1 hf;clear hxx;cases x;simp only[dL.pv]at e1 hf;cases b
   ·have hgo:=hgo ⟨by omega,rfl⟩ (by omega)
    repeat' first|simp only[go_sem,seval,hlm,e1]|(refine cW hf (iK _ _) ?_)|refine sB ?_|(first|apply pX|apply bX)<;>intro hc|refine⟨oD,?_⟩|exact oD|fail
    refine hgo _ ?_;exact lE
   ·repeat' first|simp only[go_sem,seval,hlm,e1]|(refine cW hf (iK _ _) ?_)|refine sB ?_|(first|apply pX|apply bX)<;>intro hc|refine⟨oD,?_⟩|exact oD|fail
    all_goals rfl
  ·obtain rfl:i=l.length:=by omega
   rw[List.drop_length];repeat' first|simp only[go_sem,seval,hlm]|refine sB ?_|(first|apply pX|apply bX)<;>intro hc|refine⟨oD,?_⟩|exact oD|fail
   all_goals simp[bU]
theorem mT (l:List dL) (f:FuncId) (c:List PV) (p:dL→Bool) (hl:l.length<4611686018427387904) (h: ∀x,aB Tryz.prog f (x.pv::c) (.b (p x))):aB Tryz.prog 360 [.sl (l.map dL.pv), .fc f [] c] (.b (l.any p)):=by
 have hi:=rD l f c p hl h;have e:decide (bU p 0 l≥0)=l.any p:=by
  rw[Bool.eq_iff_iff,decide_eq_true_iff];exact ek
 refine eW Tryz.call360 Tryz.func360 ?_;repeat' first|simp only[go_sem,seval,e]|refine cP hi ?_|refine sB ?_|(first|apply pX|apply bX)<;>intro hc|refine⟨oD,?_⟩|exact oD|fail
theorem rF (l:List Bytes) (f:FuncId) (p:Bytes→Bool) (hl:l.length<4611686018427387904) (h: ∀x,aB Tryz.prog f [bV x] (.b (p x))):aB Tryz.prog 365 [.sl (l.map bV), .fn (.func f)] (E (bU p 0 l)):=by
 have hlm:(l.map bV).length=l.length:=List.length_map ..;refine eW Tryz.call365 Tryz.func365 ?_;repeat' first|simp only[go_sem,seval,hlm]|refine sB ?_|(first|apply pX|apply bX)<;>intro hc|refine⟨oD,?_⟩|exact oD|fail
 refine aj (α:=Nat) (fun i=>l.length-i) (fun i=>⟨[(0, .v (.sl (l.map bV))),(1, .v (.fn (.func f))),(7, .v (.i .i64 l.length)),(8, .v (.i .i64 (i:Nat)))],[],_⟩) (fun i=>i≤l.length∧bU p i (l.drop i)=bU p 0 l) 0 (fun _=>Nat.le_refl _) ⟨Nat.zero_le _,rfl⟩ ?_ ?_
 ·exact lE
 ·rintro i ⟨hi,hx⟩ R hR;rw[←hx]
  by_cases hlt:i<l.length
  ·have e1:=getD_map bV l [] hlt;have hf:=h (l.getD i []);have hgo:=hR (i+1);rw[←hx,aJ [] hlt]at hgo;rw[aJ [] hlt];simp only[bU]at hgo⊢;clear hx hR h;generalize p (l.getD i [])=b at*;generalize l.getD i []=x at*;simp only[bV]at e1 hf;cases b
   ·have hgo:=hgo ⟨by omega,rfl⟩ (by omega)
    repeat' first|simp only[go_sem,seval,hlm,e1]|refine cP hf ?_|refine sB ?_|(first|apply pX|apply bX)<;>intro hc|refine⟨oD,?_⟩|exact oD|fail
    refine hgo _ ?_;exact lE
   ·repeat' first|simp only[go_sem,seval,hlm,e1]|refine cP hf ?_|refine sB ?_|(first|apply pX|apply bX)<;>intro hc|refine⟨oD,?_⟩|exact oD|fail
    all_goals rfl
  ·obtain rfl:i=l.length:=by omega
   rw[List.drop_length];repeat' first|simp only[go_sem,seval,hlm]|refine sB ?_|(first|apply pX|apply bX)<;>intro hc|refine⟨oD,?_⟩|exact oD|fail
   all_goals simp[bU]
theorem mU (l:List Bytes) (f:FuncId) (p:Bytes→Bool) (hl:l.length<4611686018427387904) (h: ∀x,aB Tryz.prog f [bV x] (.b (p x))):aB Tryz.prog 319 [.sl (l.map bV), .fn (.func f)] (.b (l.any p)):=by
 have hi:=rF l f p hl h;have e:decide (bU p 0 l≥0)=l.any p:=by
  rw[Bool.eq_iff_iff,decide_eq_true_iff];exact ek
 refine eW Tryz.call319 Tryz.func319 ?_;repeat' first|simp only[go_sem,seval,e]|refine cP hi ?_|refine sB ?_|(first|apply pX|apply bX)<;>intro hc|refine⟨oD,?_⟩|exact oD|fail
end Go.Proofs.YtmobkhegihemeaaGreatDoor
namespace Go.Proofs.YtmobkhegihemeaaGreatDoor
open Go Go.Dom Go.Num
set_option maxRecDepth 100000
set_option maxHeartbeats 16000000
theorem I0 (q:cG):aB Tryz.prog 359 [q.pv] (.b (decide (64<q.terms.length))):=by
 obtain⟨g,t,l⟩:=q;have l4:(l.map dL.pv).length=l.length:=List.length_map ..;have hd:decide ((l.length:Int)>64)=decide (64<l.length):=by rw[decide_eq_decide];omega
 unfold cG.pv;refine eW Tryz.call359 Tryz.func359 ?_;repeat' first|simp only[go_sem,seval,l4,hd]|refine sB ?_|(first|apply pX|apply bX)<;>intro hc|refine⟨oD,?_⟩|exact oD|fail
theorem IP {m:Bytes} (lm:m.length≤8) {o:Bytes} (lo:o.length≤8) (t:dL):aB Tryz.prog 361 [t.pv, .pt (dU (m,o)) 0] (.b (!fX m o t.base)):=by
 obtain⟨b,v,n,a⟩:=t;have h:=nu lm lo b;simp only[dL.pv,dU];generalize fX m o b=z at*;refine eW Tryz.call361 Tryz.func361 ?_;repeat' first|simp only[go_sem,seval]|refine cP h ?_|refine sB ?_|(first|apply pX|apply bX)<;>intro hc|refine⟨oD,?_⟩|exact oD|fail
theorem Mm (b:Bytes):aB Tryz.prog 362 [bV b] (.b (b==[])):=by
 unfold bV;refine eW Tryz.call362 Tryz.func362 ?_;repeat' first|simp only[go_sem,seval]|refine sB ?_|(first|apply pX|apply bX)<;>intro hc|refine⟨oD,?_⟩|exact oD|fail
def aS:List (Bytes×Bytes)→Bytes
 |[]=>[]
 |g::r=>if g.2=[]then aS r else g.2
theorem s8 (s:bQ) (hl:s.groups.length<1000000):aB Tryz.prog 257 [s.pv] (.s (aS s.groups)):=by
 obtain⟨gs,vs,es⟩:=s;simp only at hl;have l1:(gs.map dU).length=gs.length:=List.length_map ..;unfold bQ.pv;simp only;refine eW Tryz.call257 Tryz.func257 ?_;repeat' first|simp only[go_sem,seval,l1]|refine sB ?_|(first|apply pX|apply bX)<;>intro hc|refine⟨oD,?_⟩|exact oD|fail
 refine aj (α:=Nat) (fun i=>gs.length-i) (fun i=>⟨[(1, .p 1000 0 0),(6, .v (.sl (gs.map dU))),(7,E' gs.length),(8,E' i)],[(1000,⟨0,[.v (.sl (gs.map dU)), .v (.sl (vs.map bV)), .v (.sl (es.map cG.pv))],false,none⟩)],_⟩) (fun i=>i≤gs.length∧aS (gs.drop i)=aS gs) 0 (fun _=>Nat.le_refl _) ⟨Nat.zero_le _,rfl⟩ ?_ ?_
 ·exact lE
 ·rintro i ⟨hi,hf⟩ R hR;rw[←hf]
  by_cases hlt:i<gs.length
  ·have e1:=getD_map dU gs ed hlt;have hgo:=hR (i+1);rw[←hf]at hgo;rw[aJ ed hlt]at hgo⊢;obtain⟨x,hx⟩: ∃x,x=gs.getD i ed:=⟨_,rfl⟩;rw[←hx]at e1 hgo⊢;clear hx hf hR;obtain⟨m,o⟩:=x;simp only[aS]at hgo⊢;simp only[dU]at e1
   by_cases ho:o=[]
   ·subst ho;simp only[if_true]at hgo⊢;have hgo:=hgo ⟨by omega,trivial⟩ (by omega)
    repeat' first|simp only[go_sem,seval,l1,e1,nn]|refine sB ?_|(first|apply pX|apply bX)<;>intro hc|refine⟨oD,?_⟩|exact oD|fail
    refine hgo _ ?_;exact lE
   ·have hb:(o==([]:Bytes))=false:=by simpa using ho
    rw[if_neg ho];repeat' first|simp only[go_sem,seval,l1,e1,hb]|refine sB ?_|(first|apply pX|apply bX)<;>intro hc|refine⟨oD,?_⟩|exact oD|fail
  ·obtain rfl:i=gs.length:=by omega
   rw[List.drop_length];repeat' first|simp only[go_sem,seval,l1]|refine sB ?_|(first|apply pX|apply bX)<;>intro hc|refine⟨oD,?_⟩|exact oD|fail
   all_goals rfl
theorem GD {b:Bytes} (h:b≠[]):aB Tryz.prog 258 [bV b] (E 1):=by
 have hb:(b==([]:Bytes))=false:=by simpa using h
 unfold bV;refine eW Tryz.call258 Tryz.func258 ?_;repeat' first|simp only[go_sem,seval,hb]|refine sB ?_|(first|apply pX|apply bX)<;>intro hc|refine⟨oD,?_⟩|exact oD|fail
structure lJ (c sl:Bytes):Prop where
 vc:aa c=true
 vs:aa sl=true
 lc:c.length≤8
 ls:sl.length≤8
 c2:2≤num c
 s2:2≤num sl
def qj (c sl b:Bytes):Nat:=num sl*num c*num b
def Mj (c sl b:Bytes):Nat:=num sl*num c*num b-(num c-1)*(num b-1)
def OS (c sl b:Bytes):PV:= .agg [N (qj c sl b),N (Mj c sl b)]
theorem A8 {b:Bytes} (h:b.length≤16):num b<dA:=Nat.lt_of_lt_of_le (bR b) (Nat.pow_le_pow_right (by decide) h)
theorem ur {c sl b:Bytes} (hr:lJ c sl) (hb:b.length≤16):qj c sl b<dt:=by
 have h1:num sl*num c<18446744073709551616*18446744073709551616:=Nat.mul_lt_mul'' (cE hr.ls) (cE hr.lc);have h2:qj c sl b<18446744073709551616*18446744073709551616*dA:=Nat.mul_lt_mul'' h1 (A8 hb);exact Nat.lt_of_lt_of_le h2 (by unfold dt dA;decide+kernel)
theorem Mk {c sl b:Bytes} (hr:lJ c sl):(num c-1)*(num b-1)≤qj c sl b:=by
 unfold qj;have h1:(num c-1)*(num b-1)≤num c*num b:=Nat.mul_le_mul (by omega) (by omega)
 have h2:num c*num b≤num sl*(num c*num b):=Nat.le_mul_of_pos_left _ (by have:=hr.s2;omega)
 rw[Nat.mul_assoc];omega
theorem mL {c sl q b:Bytes} (hr:lJ c sl) (vb:aa b=true) (hb:b≠[]) (lb:b.length≤16):aB Tryz.prog 260 [.agg [.s c, .s sl, .s q], .s b] (.tup [OS c sl b,E 0]):=by
 have h64:=jE;have hw:=J4;have hML:=ur hr lb;have hle:=Mk (b:=b) hr;have hnc:=cE hr.lc;have hns:=cE hr.ls;have hnb:=uC (cl vb) hb;have hb16:=A8 lb;have e1:=dy hr.vc;have e2:=dy hr.vs;have e3:=dy vb;have m1:=I5 (a:=num sl) (b:=num c) (Nat.lt_of_lt_of_le (Nat.mul_lt_mul'' hns hnc) (by unfold dt;decide+kernel)) (by omega) (by omega)
 have m2:=I5 (a:=num sl*num c) (b:=num b) hML (Nat.lt_of_lt_of_le (Nat.mul_lt_mul'' hns hnc) (by unfold dt;decide+kernel)) (by have:=Dj;omega)
 have s1:=oK (a:=num c) (b:=1) (by have:=hr.c2;omega) (by omega)
 have s2:=oK (a:=num b) (b:=1) (by omega) (by have:=Dj;omega)
 have m3:=I5 (a:=num c-1) (b:=num b-1) (by omega) (by omega) (by have:=Dj;omega)
 have s3:=oK (a:=num sl*num c*num b) (b:=(num c-1)*(num b-1)) hle hML;rw[e1,e2]at m1;rw[e3]at m2;rw[e1]at s1;rw[e3]at s2;have hP:OS c sl b= .agg [N (num sl*num c*num b),N (num sl*num c*num b-(num c-1)*(num b-1))]:=rfl;rw[hP];clear hML hle hP;generalize num sl*num c*num b=A at*;generalize num sl*num c=B at*;generalize A-(num c-1)*(num b-1)=C at*;generalize (num c-1)*(num b-1)=D at*;refine eW Tryz.call260 Tryz.func260 ?_;repeat' first|simp only[go_sem,seval,cA]|refine cP lH ?_|refine cP m1 ?_|refine cP m2 ?_|refine cP s1 ?_|refine cP s2 ?_|refine cP m3 ?_|refine cP s3 ?_|refine sB ?_|(first|apply pX|apply bX)<;>intro hc|refine⟨oD,?_⟩|exact oD|fail
theorem sZ (x:Bool×Bytes):aB Tryz.prog 370 [cu x] (.b (!bH x)):=by
 obtain⟨n,a⟩:=x;have hv:=dJ n a;have e:bH (n,a)=(aa a&& !(n&&a==[])):=rfl;rw[e];generalize (aa a&& !(n&&a==[]))=b at*;simp only[cu];refine eW Tryz.call370 Tryz.func370 ?_;repeat' first|simp only[go_sem,seval]|refine cP hv ?_|refine sB ?_|(first|apply pX|apply bX)<;>intro hc|refine⟨oD,?_⟩|exact oD|fail
theorem GC (l:List (Bool×Bytes)) (hl:l.length<1000000):aB Tryz.prog 337 [.sl (l.map cu)] (.b (l.all bH)):=by
 have h1:=dm l _ _ (by omega) sZ
 have e:(l.all bH)= !(l.any fun x=> !bH x):=by
  induction l with
  |nil=>rfl
  |cons x l ih=>
   have:=ih (by simp at hl;omega)
   rw[List.all_cons,List.any_cons,this]
   ·cases bH x<;>simp
   ·exact dm l _ _ (by simp at hl;omega) sZ
 rw[e];generalize (l.any fun x=> !bH x)=b at*
 refine eW Tryz.call337 Tryz.func337 ?_;repeat' first|simp only[go_sem,seval]|refine cP h1 ?_|refine sB ?_|(first|apply pX|apply bX)<;>intro hc|refine⟨oD,?_⟩|exact oD|fail
noncomputable def oG (M:Nat) (l:List (Bool×Bytes)) (x:Nat) (t:dL):Nat:=
 x*bJ M (bJ M (num t.base) t.neg (num t.abs)) (l.getD t.var.toNat ie).1 (num (l.getD t.var.toNat ie).2)%M
noncomputable def iQ (gs:List (Bytes×Bytes)) (c:Bytes) (l:List (Bool×Bytes)) (q:cG):Nat:=
 q.terms.foldl (oG (num (gs.getD q.iE.toNat ed).1) l) (bJ (num (gs.getD q.iE.toNat ed).1) (num q.tgt) (!(c==[])) (num c))
theorem yj {c:Bytes} (vc:aa c=true):aB Tryz.prog 352 [.agg [.b false, .s c]] (.agg [.b (!(c==[])), .s c]):=by
 have hv:=dJ false c;rw[vc]at hv;have hm:=oX true c;rw[Bool.true_and]at hm;refine eW Tryz.call352 Tryz.func352 ?_;repeat' first|simp only[go_sem,seval]|refine cP hv ?_|refine cP hm ?_|refine sB ?_|(first|apply pX|apply bX)<;>intro hc|refine⟨oD,?_⟩|exact oD|fail
theorem uW {s:bQ} (hs:Qp s) (h0:s.eqs≠[]) {c:Bytes} (vc:aa c=true) {l:List (Bool×Bytes)} (hlen:l.length=s.vars.length) (hl: ∀x∈l,bH x=true):aB Tryz.prog 339 [s.pv, .s c, .sl (l.map cu)] (.sl (s.eqs.map fun q=>N (iQ s.groups c l q))):=by
 obtain⟨gs,vs,es⟩:=s;obtain⟨hg,hq,ng,nv,ne⟩:=hs;simp only at hg hq ng nv ne h0 hlen;have hpos:0<es.length:=List.length_pos_iff.2 h0;have l1:(gs.map dU).length=gs.length:=List.length_map ..;have l3:(es.map cG.pv).length=es.length:=List.length_map ..;have l5:(l.map cu).length=l.length:=List.length_map ..;have fr:=j8 vc;have ng':=yj vc;have hM:cC (fun q=>N (iQ gs c l q)) 1:=⟨fun _=>rfl,fun _ y hy=>by cases List.mem_singleton.1 hy;rfl,fun _ _=>rfl,fun h=>absurd rfl h⟩
 have row1: ∀{i:Nat},i<es.length→aQ (fun q=>N (iQ gs c l q)) (es.take (i+1))=aQ (fun q=>N (iQ gs c l q)) (es.take i)++[.v (N (iQ gs c l (es.getD i gH)))]:=fun h=>by
  rw[aN gH h,bz];rfl
 have rn1:aQ (fun q=>N (iQ gs c l q)) []=[]:=rfl
 unfold bQ.pv;simp only;refine eW Tryz.call339 Tryz.func339 ?_;repeat' first|simp only[go_sem,seval,l3]|refine sB ?_|(first|apply pX|apply bX)<;>intro hc|refine⟨oD,?_⟩|exact oD|fail
 refine ae ?_;have e1:=getD_map cG.pv es gH hpos;obtain⟨q1,q2,q3,q4,q5⟩:=hq _ (au gH hpos);have r1:=row1 hpos;obtain⟨x,hx⟩: ∃x,x=es.getD 0 gH:=⟨_,rfl⟩;rw[←hx]at e1 q1 q2 q3 q4 q5 r1;clear hx;obtain⟨gr,tg,ts⟩:=x;simp only at q1 q2 q3 q4 q5;have hgl:gr.toNat<gs.length:=by omega
 have kg:=hg _ (au ed hgl);have e3:=getD_map dU gs ed hgl;have hmQ:iQ gs c l ⟨gr,tg,ts⟩=ts.foldl (oG (num (gs.getD gr.toNat ed).1) l) (bJ (num (gs.getD gr.toNat ed).1) (num tg) (!(c==[])) (num c)):=rfl;obtain⟨z,hz⟩: ∃z,z=gs.getD gr.toNat ed:=⟨_,rfl⟩;rw[←hz]at q3 q5 kg e3 hmQ;clear hz;obtain⟨m,o⟩:=z;simp only at q3 q5 kg hmQ;obtain⟨vt,gt⟩:=(a7 kg.1).1 q3;have m1:=(fb kg.1).2.2.1;have hzc:(!(c==[])&&c==[])=false:=by cases(c==([]:Bytes))<;>rfl
 have xe:=eX kg.2.1 kg.2.2 kg.1 gt vc hzc;rw[dy vt]at xe;have gx0:=gt.bJ m1 (!(c==[])) (num c);obtain⟨x0,hx0⟩: ∃x0,x0=bJ (num m) (num tg) (!(c==[])) (num c):=⟨_,rfl⟩;rw[←hx0]at xe gx0 hmQ;rw[hmQ]at r1;clear hx0 hmQ gt vt;have l4:(ts.map dL.pv).length=ts.length:=List.length_map ..;simp only[dU]at e3;simp only[cG.pv]at e1;repeat' first|simp only[go_sem,seval,l1,l3,e1,e3,l4]|refine cP fr ?_|refine cP ng' ?_|refine cP xe ?_|refine sB ?_|(first|apply pX|apply bX)<;>intro hc|refine⟨oD,?_⟩|exact oD|fail
 refine aj (α:=Nat×Nat) (fun s=>ts.length-s.1) (fun s=>⟨[(1, .v (.s c)),(2, .v (.sl (l.map cu))),(3, .p 1000 0 0),(7, .sn),(18, .v (.sl (es.map cG.pv))),(19,E' es.length),(20,E' 0),(10, .p 1018 0 0),(11, .v (N s.2)),(41, .v (.sl (ts.map dL.pv))),(42,E' ts.length),(43,E' s.1)],[(1000,⟨0,[.v (.sl (gs.map dU)), .v (.sl (vs.map bV)), .v (.sl (es.map cG.pv))],false,none⟩),(1018,⟨0,[.v (.s m), .v (.s o)],false,some 24⟩)],1036⟩) (fun s=>s.1≤ts.length∧GP m o s.2∧(ts.drop s.1).foldl (oG (num m) l) s.2=ts.foldl (oG (num m) l) x0) (0,x0) (fun _=>Nat.le_of_ble_eq_true rfl) ⟨Nat.zero_le _,gx0,rfl⟩ ?_ ?_
 ·(refine AS.Le.of (by first|decide|omega) ?_ ?_<;>simp[bL,bK,aD,ai,AV.bd,AV.bd.bdL,u8,af,ah,ak])
  skip
 ·rintro⟨j,x⟩ ⟨hj,gx,hf⟩ R' hR';simp only at hj gx hf
  by_cases hjt:j<ts.length
  ·have e2:=getD_map dL.pv ts fV hjt;obtain⟨t1,t2,t3,t4⟩:=q5 _ (au fV hjt);rw[aJ fV hjt]at hf;obtain⟨y,hy⟩: ∃y,y=ts.getD j fV:=⟨_,rfl⟩;rw[←hy]at e2 t1 t2 t3 t4 hf;obtain⟨b,v,n,a⟩:=y;simp only at t1 t2 t3 t4;rw[List.foldl_cons]at hf;obtain⟨kb1,kb2⟩:=(a7 kg.1).1 t3;have hvl:v.toNat<l.length:=by omega
   have e4:=getD_map cu l ie hvl;have kr:=hl _ (au ie hvl);have hmT:oG (num m) l x ⟨b,v,n,a⟩=x*bJ (num m) (bJ (num m) (num b) n (num a)) (l.getD v.toNat ie).1 (num (l.getD v.toNat ie).2)%num m:=rfl;obtain⟨w,hw⟩: ∃w,w=l.getD v.toNat ie:=⟨_,rfl⟩;rw[←hw]at e4 kr hmT;obtain⟨rn,ra⟩:=w;simp only[bH,Bool.and_eq_true,Bool.not_eq_true']at t4 kr;have m1:=(fb kg.1).2.2.1;have x1:=eX kg.2.1 kg.2.2 kg.1 kb2 t4.1 t4.2;rw[dy kb1]at x1;have gy:=kb2.bJ m1 n (num a);have x2:=eX kg.2.1 kg.2.2 kg.1 gy kr.1 kr.2;have gz:=gy.bJ m1 rn (num ra);have x3:=uc kg.2.1 kg.2.2 kg.1 gx gz;have hgo':=hR' (j+1,oG (num m) l x ⟨b,v,n,a⟩) ⟨by show j+1≤ _;omega,by rw[hmT];exact gx.mul gz,hf⟩ (by show ts.length-(j+1)<ts.length-j;omega)
   rw[hmT]at hgo';clear hR' hy t3 t4 q5 hf hw kb1 kb2 gx gy gz hmT kr;simp only[dL.pv]at e2;simp only[cu]at e4;have hd3: ∀ _:True,v<(l.length:Int):=fun _=>by omega
   generalize bJ (num m) (bJ (num m) (num b) n (num a)) rn (num ra)=z at*;generalize bJ (num m) (num b) n (num a)=y at*;repeat' first|simp only[go_sem,seval,l3,l4,l5,e2,e4]|refine cP x1 ?_|refine cP x2 ?_|refine cP x3 ?_|refine sB ?_|(first|apply pX|apply bX)<;>intro hc|refine⟨oD,?_⟩|exact oD|fail
   refine hgo' _ ?_
   (refine AS.Le.of (by first|decide|omega) ?_ ?_<;>simp[bL,bK,aD,ai,AV.bd,AV.bd.bdL,u8,af,ah,ak])
   skip
  ·obtain rfl:j=ts.length:=by omega
   rw[List.drop_length]at hf;simp only[List.foldl_nil]at hf;subst hf;repeat' first|simp only[go_sem,seval,l3,l4]|refine sB ?_|(first|apply pX|apply bX)<;>intro hc|refine⟨oD,?_⟩|exact oD|fail
   refine aj (α:=Nat) (fun j=>es.length-(j+1)) (fun j=>⟨[(1, .v (.s c)),(2, .v (.sl (l.map cu))),(3, .p 1000 0 0),(7, .rs 1040 j 0 (j+1) 1),(18, .v (.sl (es.map cG.pv))),(19,E' es.length),(20,E' (j+1))],[(1000,⟨0,[.v (.sl (gs.map dU)), .v (.sl (vs.map bV)), .v (.sl (es.map cG.pv))],false,none⟩),(1040,⟨j,aQ (fun q=>N (iQ gs c l q)) (es.take (j+1)),true,some 22⟩)],1044⟩) (fun j=>j+1≤es.length) 0 (fun _=>Nat.le_of_ble_eq_true rfl) hpos ?_ ?_
   ·rw[Nat.zero_add,r1,List.take_zero,rn1];exact lE
   ·clear e1 e3 q1 q2 q3 q4 q5 kg gx0 xe r1 l4;intro i hi R hR;have hj1:(es.take (i+1)).length=i+1:=by rw[List.length_take];omega
    have p1:=a9 hM (es.take (i+1));have p2:=a5 hM (es.take (i+1));rw[hj1,Nat.mul_one]at p1 p2;have hw1: ∀ _:True,((i:Int)+1)=((i+1:Nat):Int):=fun _=>by omega
    by_cases hlt:i+1<es.length
    ·have hgo:=hR (i+1) (by omega) (by omega)
     clear hR;have e1:=getD_map cG.pv es gH hlt;obtain⟨q1,q2,q3,q4,q5⟩:=hq _ (au gH hlt);have r1:=row1 hlt;obtain⟨x,hx⟩: ∃x,x=es.getD (i+1) gH:=⟨_,rfl⟩;rw[←hx]at e1 q1 q2 q3 q4 q5 r1;clear hx;obtain⟨gr,tg,ts⟩:=x;simp only at q1 q2 q3 q4 q5;have hgl:gr.toNat<gs.length:=by omega
     have kg:=hg _ (au ed hgl);have e3:=getD_map dU gs ed hgl;have hmQ:iQ gs c l ⟨gr,tg,ts⟩=ts.foldl (oG (num (gs.getD gr.toNat ed).1) l) (bJ (num (gs.getD gr.toNat ed).1) (num tg) (!(c==[])) (num c)):=rfl;obtain⟨z,hz⟩: ∃z,z=gs.getD gr.toNat ed:=⟨_,rfl⟩;rw[←hz]at q3 q5 kg e3 hmQ;clear hz;obtain⟨m,o⟩:=z;simp only at q3 q5 kg hmQ;obtain⟨vt,gt⟩:=(a7 kg.1).1 q3;have m1:=(fb kg.1).2.2.1;have hzc:(!(c==[])&&c==[])=false:=by cases(c==([]:Bytes))<;>rfl
     have xe:=eX kg.2.1 kg.2.2 kg.1 gt vc hzc;rw[dy vt]at xe;have gx0:=gt.bJ m1 (!(c==[])) (num c);obtain⟨x0,hx0⟩: ∃x0,x0=bJ (num m) (num tg) (!(c==[])) (num c):=⟨_,rfl⟩;rw[←hx0]at xe gx0 hmQ;rw[hmQ]at r1;clear hx0 hmQ gt vt;have l4:(ts.map dL.pv).length=ts.length:=List.length_map ..;simp only[dU]at e3;simp only[cG.pv]at e1;rw[r1]at hgo;repeat' first|simp only[go_sem,seval,l1,l3,e1,e3,l4]|refine cP fr ?_|refine cP ng' ?_|refine cP xe ?_|refine sB ?_|(first|apply pX|apply bX)<;>intro hc|refine⟨oD,?_⟩|exact oD|fail
     refine aj (α:=Nat×Nat) (fun s=>ts.length-s.1) (fun s=>⟨[(1, .v (.s c)),(2, .v (.sl (l.map cu))),(3, .p 1000 0 0),(7, .rs 1040 i 0 (i+1) 1),(18, .v (.sl (es.map cG.pv))),(19,E' es.length),(20,E' (i+1)),(10, .p 1055 0 0),(11, .v (N s.2)),(41, .v (.sl (ts.map dL.pv))),(42,E' ts.length),(43,E' s.1)],[(1000,⟨0,[.v (.sl (gs.map dU)), .v (.sl (vs.map bV)), .v (.sl (es.map cG.pv))],false,none⟩),(1055,⟨0,[.v (.s m), .v (.s o)],false,some 24⟩),(1040,⟨i,aQ (fun q=>N (iQ gs c l q)) (es.take (i+1)),true,some 22⟩)],1073⟩) (fun s=>s.1≤ts.length∧GP m o s.2∧(ts.drop s.1).foldl (oG (num m) l) s.2=ts.foldl (oG (num m) l) x0) (0,x0) (fun _=>Nat.le_of_ble_eq_true rfl) ⟨Nat.zero_le _,gx0,rfl⟩ ?_ ?_
     ·(refine AS.Le.of (by first|decide|omega) ?_ ?_<;>simp[bL,bK,aD,ai,AV.bd,AV.bd.bdL,u8,af,ah,ak])
      all_goals (intro c hc;exact cb hc)
     ·rintro⟨j,x⟩ ⟨hj,gx,hf⟩ R' hR';simp only at hj gx hf
      by_cases hjt:j<ts.length
      ·have e2:=getD_map dL.pv ts fV hjt;obtain⟨t1,t2,t3,t4⟩:=q5 _ (au fV hjt);rw[aJ fV hjt]at hf;obtain⟨y,hy⟩: ∃y,y=ts.getD j fV:=⟨_,rfl⟩;rw[←hy]at e2 t1 t2 t3 t4 hf;obtain⟨b,v,n,a⟩:=y;simp only at t1 t2 t3 t4;rw[List.foldl_cons]at hf;obtain⟨kb1,kb2⟩:=(a7 kg.1).1 t3;have hvl:v.toNat<l.length:=by omega
       have e4:=getD_map cu l ie hvl;have kr:=hl _ (au ie hvl);have hmT:oG (num m) l x ⟨b,v,n,a⟩=x*bJ (num m) (bJ (num m) (num b) n (num a)) (l.getD v.toNat ie).1 (num (l.getD v.toNat ie).2)%num m:=rfl;obtain⟨w,hw⟩: ∃w,w=l.getD v.toNat ie:=⟨_,rfl⟩;rw[←hw]at e4 kr hmT;obtain⟨rn,ra⟩:=w;simp only[bH,Bool.and_eq_true,Bool.not_eq_true']at t4 kr;have m1:=(fb kg.1).2.2.1;have x1:=eX kg.2.1 kg.2.2 kg.1 kb2 t4.1 t4.2;rw[dy kb1]at x1;have gy:=kb2.bJ m1 n (num a);have x2:=eX kg.2.1 kg.2.2 kg.1 gy kr.1 kr.2;have gz:=gy.bJ m1 rn (num ra);have x3:=uc kg.2.1 kg.2.2 kg.1 gx gz;have hgo':=hR' (j+1,oG (num m) l x ⟨b,v,n,a⟩) ⟨by show j+1≤ _;omega,by rw[hmT];exact gx.mul gz,hf⟩ (by show ts.length-(j+1)<ts.length-j;omega)
       rw[hmT]at hgo';clear hR' hy t3 t4 q5 hf hw kb1 kb2 gx gy gz hmT kr;simp only[dL.pv]at e2;simp only[cu]at e4;have hd3: ∀ _:True,v<(l.length:Int):=fun _=>by omega
       generalize bJ (num m) (bJ (num m) (num b) n (num a)) rn (num ra)=z at*;generalize bJ (num m) (num b) n (num a)=y at*;repeat' first|simp only[go_sem,seval,l3,l4,l5,e2,e4]|refine cP x1 ?_|refine cP x2 ?_|refine cP x3 ?_|refine sB ?_|(first|apply pX|apply bX)<;>intro hc|refine⟨oD,?_⟩|exact oD|fail
       refine hgo' _ ?_
       (refine AS.Le.of (by first|decide|omega) ?_ ?_<;>simp[bL,bK,aD,ai,AV.bd,AV.bd.bdL,u8,af,ah,ak])
       all_goals (intro c hc;exact cb hc)
      ·obtain rfl:j=ts.length:=by omega
       rw[List.drop_length]at hf;simp only[List.foldl_nil]at hf;subst hf;repeat' first|simp only[go_sem,seval,l3,l4,p1,p2]|refine sB ?_|(first|apply pX|apply bX)<;>intro hc|refine⟨oD,?_⟩|exact oD|fail
       refine hgo _ ?_
       (refine AS.Le.of (by first|decide|omega) ?_ ?_<;>simp[bL,bK,aD,ai,AV.bd,AV.bd.bdL,u8,af,ah,ak])
       all_goals (intro c hc;rcases hc with h|h<;>first|exact cb h|(subst h;rfl))
    ·obtain hjv:i+1=es.length:=by omega
     rw[hjv,List.take_length]at p1 p2;rw[hjv,List.take_length];have p3:=ct hM es;have p4:chunk 1 es.length (List.flatMap (fun x=>[PV.s (aK (iQ gs c l x))]) es)=es.map fun q=>N (iQ gs c l q):=bj hM es
     repeat' first|simp only[go_sem,seval,l3,p1,p2,p3,p4,cj]|refine sB ?_|(first|apply pX|apply bX)<;>intro hc|refine⟨oD,?_⟩|exact oD|fail
end Go.Proofs.YtmobkhegihemeaaGreatDoor
