/-
  Part of the proof, part Z30. Own work.
-/
import Derived.Test.YtmobkhegihemeaaGreatDoorZ29
set_option linter.all false
namespace Go.Dom
structure cU {α:Type} (f:α→PV) (z:Nat):Prop where
 len: ∀x,(f x).cells.length=z
 one: ∀x,∀y∈(f x).cells,y.one=true
 z1:z=1→ ∀x,(f x).cells=[f x]
 zn:z≠1→ ∀x,f x= .agg (f x).cells
def aV {α:Type} (f:α→PV) (l:List α):List AV:=(l.flatMap fun x=>(f x).cells).map AV.v
variable {α:Type} {f:α→PV} {z:Nat}
theorem cU.s:cU PV.s 1:=⟨fun _=>rfl,fun _ y hy=>by cases List.mem_singleton.1 hy;rfl,fun _ _=>rfl,fun h=>absurd rfl h⟩
theorem Dh (h:cU f z) (l:List α):(l.flatMap fun x=>(f x).cells).length=l.length*z:=by
 induction l with
 |nil=>simp
 |cons x l ih=>rw[List.flatMap_cons,List.length_append,ih,h.len,List.length_cons,Nat.succ_mul];omega
theorem cf (h:cU f z) (l:List α):(aV f l).length=l.length*z:=by rw[aV,List.length_map,Dh h]
theorem cz (h:cU f z) (l:List α):(aV f l).take (l.length*z)=aV f l:=List.take_of_length_le (by rw[cf h];exact Nat.le_refl _)
theorem dw (h:cU f z) (l:List α):(aV f l).all AV.one=true:=by
 rw[List.all_eq_true];intro y hy;obtain⟨c,hc,rfl⟩:=List.mem_map.1 hy;obtain⟨x,-,hx⟩:=List.mem_flatMap.1 hc;exact h.one x c hx
theorem dr (hf:Nat→Option aq) (k:Nat) (l:List α):aJ (view hf (k+1)) (aV f l)=some (l.flatMap fun x=>(f x).cells):=dA _ _ _
theorem rf (hf:Nat→Option aq) (k:Nat) (l:List α):(aV f l).flatMap (aH hf (k+1))=[]:=by
 unfold aV
 induction (l.flatMap fun x=>(f x).cells)with
 |nil=>rfl
 |cons x l ih=>simp_all[aH]
theorem cr (h:cU f z) (l:List α):chunk z l.length (l.flatMap fun x=>(f x).cells)=l.map f:=by
 induction l with
 |nil=>rfl
 |cons x l ih=>
  have hl:=h.len x;rw[List.length_cons,List.flatMap_cons,chunk,List.drop_left' hl,ih,List.map_cons];congr 1
  by_cases h1:z=1
  ·rw[if_pos h1,h.z1 h1 x];rfl
  ·rw[if_neg h1,List.take_left' hl];exact(h.zn h1 x).symm
theorem cJ {l:List α} {c:AV} {n:Nat} (h:c∈aV f l):c.bd n=true:=by
 obtain⟨x,-,rfl⟩:=List.mem_map.1 h;rfl
theorem cq (l:List α) (x:α):aV f (l++[x])=aV f l++(f x).cells.map AV.v:=by
 simp[aV,List.flatMap_append]
theorem nZ (h: ∀x,(f x).cells=[f x]) (l:List α) (d:α) {i:Nat} (hi:i<l.length):(aV f l).getD i .u= .v (f (l.getD i d)):=by
 have e:aV f l=l.map fun x=>AV.v (f x):=by
  unfold aV;clear hi
  induction l with
  |nil=>rfl
  |cons x l ih=>rw[List.flatMap_cons,h x,List.map_append,ih];rfl
 rw[e];simp[List.getD_eq_getElem?_getD,hi]
theorem DH (h:cU f z) {hf:Nat→Option aq} {k n ver:Nat} {gr:Bool} {el:Option TypeId} {l:List α} {m:Nat} (hm:m=l.length) (hg:hf n=some ⟨ver,aV f l,gr,el⟩):view hf (k+2) (.rs n ver 0 m z)=some (.sl (l.map f)):=by
 subst hm;have h1:=cf h l;have h2:=dw h l;have h3:=cz h l;simp[view,hg,h1,h2,h3,dr,cr h]
theorem zF (h:cU f z) {hf:Nat→Option aq} {k n ver:Nat} {gr:Bool} {el:Option TypeId} {l:List α} {m:Nat} (hm:m=l.length) (hg:hf n=some ⟨ver,aV f l,gr,el⟩):aH hf (k+2) (.rs n ver 0 m z)=[n]:=by
 subst hm;simp[aH,hg,cz h,rf]
theorem aP {α:Type} {l:List α} {i:Nat} (d:α) (h:i<l.length):l.take (i+1)=l.take i++[l.getD i d]:=by
 rw[List.take_succ,List.getElem?_eq_getElem h,List.getD_eq_getElem?_getD,List.getElem?_eq_getElem h];rfl
theorem iN {α:Type} (l:List α) (p:α→Bool):(l.any fun x=> !p x)= !l.all p:=by
 induction l with
 |nil=>rfl
 |cons x l ih=>rw[List.any_cons,List.all_cons,ih];cases p x<;>simp
end Go.Dom
namespace Go.Proofs.YtmobkhegihemeaaGreatDoor
open Go Go.Dom Go.Num
set_option maxRecDepth 100000
set_option maxHeartbeats 8000000
structure dM where
 (base:Bytes) (var:Int) (neg:Bool) (abs:Bytes)
def dM.pv:dM→PV
 |⟨b,v,n,a⟩=> .agg [.s b, .i .i64 v, .b n, .s a]
structure cM where
 (iu:Int) (tgt:Bytes) (terms:List dM)
def cM.pv:cM→PV
 |⟨g,t,l⟩=> .agg [.i .i64 g, .s t, .sl (l.map dM.pv)]
def dY:Bytes×Bytes→PV
 |(m,o)=> .agg [.s m, .s o]
def bV (b:Bytes):PV:= .agg [.s b]
def cH:Bool×Bytes→PV
 |(n,a)=> .agg [.b n, .s a]
structure bT where
 (groups:List (Bytes×Bytes)) (vars:List Bytes) (eqs:List cM)
def bT.pv (s:bT):PV:= .agg [.sl (s.groups.map dY), .sl (s.vars.map bV), .sl (s.eqs.map cM.pv)]
def ik (z:Int):Bool×Bytes:=(zs z,zb z)
theorem Ku (z:Int):cH (ik z)=Z z:=rfl
def Zp (z:Int):PV:=cH (ik z)
def bM (x:Bool×Bytes):Bool:=aa x.2&& !(x.1&&x.2==[])
def gI:dM:=⟨[],0,false,[]⟩
def gM:cM:=⟨0,[],[]⟩
def ey:Bytes×Bytes:=([],[])
def ij:Bool×Bytes:=(false,[])
structure Ql (s:bT):Prop where
 g: ∀p∈s.groups,gE p.1 p.2=0∧p.1.length≤8∧p.2.length≤8
 v: ∀b∈s.vars,aa b=true∧b≠[]∧b.length≤16
 q: ∀q∈s.eqs,0≤q.iu∧q.iu<s.groups.length∧fq (s.groups.getD q.iu.toNat ey).1 (s.groups.getD q.iu.toNat ey).2 q.tgt=true∧q.terms.length≤64∧
  ∀t∈q.terms,0≤t.var∧t.var<s.vars.length∧fq (s.groups.getD q.iu.toNat ey).1 (s.groups.getD q.iu.toNat ey).2 t.base=true∧bM (t.neg,t.abs)=true
 ng:s.groups.length≤8
 nv:s.vars.length≤64
 ne:s.eqs.length≤64
structure Rx (s:bT):Prop where
 g: ∀p∈s.groups,gE p.1 p.2=0∧p.1.length≤8∧p.2.length≤8
 q: ∀q∈s.eqs,0≤q.iu∧q.iu<s.groups.length∧fq (s.groups.getD q.iu.toNat ey).1 (s.groups.getD q.iu.toNat ey).2 q.tgt=true∧q.terms.length≤64∧
  ∀t∈q.terms,0≤t.var∧t.var<s.vars.length∧fq (s.groups.getD q.iu.toNat ey).1 (s.groups.getD q.iu.toNat ey).2 t.base=true∧bM (t.neg,t.abs)=true
 ng:s.groups.length≤8
 nv:s.vars.length≤64
 ne:s.eqs.length≤64
theorem Ql.m {s:bT} (h:Ql s):Rx s:=⟨h.g,h.q,h.ng,h.nv,h.ne⟩
theorem getD_map {α:Type} (f:α→PV) (l:List α) (d:α) {i:Nat} (h:i<l.length):(l.map f).getD i .fn0=f (l.getD i d):=by
 simp[List.getD_eq_getElem?_getD,h]
theorem aK {α:Type} {l:List α} {i:Nat} (d:α) (h:i<l.length):l.drop i=l.getD i d::l.drop (i+1):=by
 rw[List.drop_eq_getElem_cons h,List.getD_eq_getElem?_getD,List.getElem?_eq_getElem h];rfl
theorem ax {α:Type} {l:List α} {i:Nat} (d:α) (h:i<l.length):l.getD i d∈l:=by
 rw[List.getD_eq_getElem?_getD,List.getElem?_eq_getElem h];exact List.getElem_mem h
theorem k9 {m o x:Bytes} (hE:gE m o=0) (h:fq m o x=true):aa x=true:=((bG hE).1 h).1
theorem sr (l:List (Bool×Bytes)) (f:FuncId) (p:(Bool×Bytes)→Bool) (hl:l.length<4611686018427387904) (h: ∀x,aA Tryz.prog f [cH x] (.b (p x))):aA Tryz.prog 251 [.sl (l.map cH), .fn (.func f)] (E (bU p 0 l)):=by
 have hlm:(l.map cH).length=l.length:=List.length_map ..;refine eW Tryz.call251 Tryz.func251 ?_;repeat' first|simp only[go_sem,seval,hlm]|refine sB ?_|(first|apply pX|apply bX)<;>intro hc|refine⟨oD,?_⟩|exact oD|fail
 refine ai (α:=Nat) (fun i=>l.length-i) (fun i=>⟨[(0, .v (.sl (l.map cH))),(1, .v (.fn (.func f))),(7, .v (.i .i64 l.length)),(8, .v (.i .i64 (i:Nat)))],[],_⟩) (fun i=>i≤l.length∧bU p i (l.drop i)=bU p 0 l) 0 (fun _=>Nat.le_refl _) ⟨Nat.zero_le _,rfl⟩ ?_ ?_
 ·exact lE
 ·rintro i ⟨hi,hx⟩ R hR;rw[←hx]
  by_cases hlt:i<l.length
  ·have e1:=getD_map cH l ij hlt;have hf:=h (l.getD i ij);have hgo:=hR (i+1);rw[←hx,aK ij hlt]at hgo;rw[aK ij hlt];simp only[bU]at hgo⊢;clear hx hR h;obtain⟨b,hb⟩: ∃b,b=p (l.getD i ij):=⟨_,rfl⟩;rw[←hb]at hf hgo⊢;clear hb;obtain⟨x,hxx⟩: ∃x,x=l.getD i ij:=⟨_,rfl⟩;rw[←hxx]at e1 hf;clear hxx;cases x;simp only[cH]at e1 hf;cases b
   ·have hgo:=hgo ⟨by omega,rfl⟩ (by omega)
    repeat' first|simp only[go_sem,seval,hlm,e1]|refine cP hf ?_|refine sB ?_|(first|apply pX|apply bX)<;>intro hc|refine⟨oD,?_⟩|exact oD|fail
    refine hgo _ ?_;exact lE
   ·repeat' first|simp only[go_sem,seval,hlm,e1]|refine cP hf ?_|refine sB ?_|(first|apply pX|apply bX)<;>intro hc|refine⟨oD,?_⟩|exact oD|fail
    all_goals rfl
  ·obtain rfl:i=l.length:=by omega
   rw[List.drop_length];repeat' first|simp only[go_sem,seval,hlm]|refine sB ?_|(first|apply pX|apply bX)<;>intro hc|refine⟨oD,?_⟩|exact oD|fail
   all_goals simp[bU]
theorem du (l:List (Bool×Bytes)) (f:FuncId) (p:(Bool×Bytes)→Bool) (hl:l.length<4611686018427387904) (h: ∀x,aA Tryz.prog f [cH x] (.b (p x))):aA Tryz.prog 172 [.sl (l.map cH), .fn (.func f)] (.b (l.any p)):=by
 have hi:=sr l f p hl h;have e:decide (bU p 0 l≥0)=l.any p:=by
  rw[Bool.eq_iff_iff,decide_eq_true_iff];exact eD
 refine eW Tryz.call172 Tryz.func172 ?_;repeat' first|simp only[go_sem,seval,e]|refine cP hi ?_|refine sB ?_|(first|apply pX|apply bX)<;>intro hc|refine⟨oD,?_⟩|exact oD|fail
theorem sC (l:List cM) (f:FuncId) (p:cM→Bool) (hl:l.length<4611686018427387904) (h: ∀x,aA Tryz.prog f [cM.pv x] (.b (p x))):aA Tryz.prog 379 [.sl (l.map cM.pv), .fn (.func f)] (E (bU p 0 l)):=by
 have hlm:(l.map cM.pv).length=l.length:=List.length_map ..;refine eW Tryz.call379 Tryz.func379 ?_;repeat' first|simp only[go_sem,seval,hlm]|refine sB ?_|(first|apply pX|apply bX)<;>intro hc|refine⟨oD,?_⟩|exact oD|fail
 refine ai (α:=Nat) (fun i=>l.length-i) (fun i=>⟨[(0, .v (.sl (l.map cM.pv))),(1, .v (.fn (.func f))),(7, .v (.i .i64 l.length)),(8, .v (.i .i64 (i:Nat)))],[],_⟩) (fun i=>i≤l.length∧bU p i (l.drop i)=bU p 0 l) 0 (fun _=>Nat.le_refl _) ⟨Nat.zero_le _,rfl⟩ ?_ ?_
 ·exact lE
 ·rintro i ⟨hi,hx⟩ R hR;rw[←hx]
  by_cases hlt:i<l.length
  ·have e1:=getD_map cM.pv l gM hlt;have hf:=h (l.getD i gM);have hgo:=hR (i+1);rw[←hx,aK gM hlt]at hgo;rw[aK gM hlt];simp only[bU]at hgo⊢;clear hx hR h;obtain⟨b,hb⟩: ∃b,b=p (l.getD i gM):=⟨_,rfl⟩;rw[←hb]at hf hgo⊢;clear hb;obtain⟨x,hxx⟩: ∃x,x=l.getD i gM:=⟨_,rfl⟩;rw[←hxx]at e1 hf;clear hxx;cases x;simp only[cM.pv]at e1 hf;cases b
   ·have hgo:=hgo ⟨by omega,rfl⟩ (by omega)
    repeat' first|simp only[go_sem,seval,hlm,e1]|refine cP hf ?_|refine sB ?_|(first|apply pX|apply bX)<;>intro hc|refine⟨oD,?_⟩|exact oD|fail
    refine hgo _ ?_;exact lE
   ·repeat' first|simp only[go_sem,seval,hlm,e1]|refine cP hf ?_|refine sB ?_|(first|apply pX|apply bX)<;>intro hc|refine⟨oD,?_⟩|exact oD|fail
    all_goals rfl
  ·obtain rfl:i=l.length:=by omega
   rw[List.drop_length];repeat' first|simp only[go_sem,seval,hlm]|refine sB ?_|(first|apply pX|apply bX)<;>intro hc|refine⟨oD,?_⟩|exact oD|fail
   all_goals simp[bU]
theorem nT (l:List cM) (f:FuncId) (p:cM→Bool) (hl:l.length<4611686018427387904) (h: ∀x,aA Tryz.prog f [cM.pv x] (.b (p x))):aA Tryz.prog 358 [.sl (l.map cM.pv), .fn (.func f)] (.b (l.any p)):=by
 have hi:=sC l f p hl h;have e:decide (bU p 0 l≥0)=l.any p:=by
  rw[Bool.eq_iff_iff,decide_eq_true_iff];exact eD
 refine eW Tryz.call358 Tryz.func358 ?_;repeat' first|simp only[go_sem,seval,e]|refine cP hi ?_|refine sB ?_|(first|apply pX|apply bX)<;>intro hc|refine⟨oD,?_⟩|exact oD|fail
theorem sj (l:List dM) (f:FuncId) (c:List PV) (p:dM→Bool) (hl:l.length<4611686018427387904) (h: ∀x,aA Tryz.prog f (x.pv::c) (.b (p x))):aA Tryz.prog 380 [.sl (l.map dM.pv), .fc f [] c] (E (bU p 0 l)):=by
 have hlm:(l.map dM.pv).length=l.length:=List.length_map ..;refine eW Tryz.call380 Tryz.func380 ?_;repeat' first|simp only[go_sem,seval,hlm]|refine sB ?_|(first|apply pX|apply bX)<;>intro hc|refine⟨oD,?_⟩|exact oD|fail
 refine ai (α:=Nat) (fun i=>l.length-i) (fun i=>⟨[(0, .v (.sl (l.map dM.pv))),(1, .v (.fc f [] c)),(7, .v (.i .i64 l.length)),(8, .v (.i .i64 (i:Nat)))],[],_⟩) (fun i=>i≤l.length∧bU p i (l.drop i)=bU p 0 l) 0 (fun _=>Nat.le_refl _) ⟨Nat.zero_le _,rfl⟩ ?_ ?_
 ·exact lE
 ·rintro i ⟨hi,hx⟩ R hR;rw[←hx]
  by_cases hlt:i<l.length
  ·have e1:=getD_map dM.pv l gI hlt;have hf:=h (l.getD i gI);have hgo:=hR (i+1);rw[←hx,aK gI hlt]at hgo;rw[aK gI hlt];simp only[bU]at hgo⊢;clear hx hR h;obtain⟨b,hb⟩: ∃b,b=p (l.getD i gI):=⟨_,rfl⟩;rw[←hb]at hf hgo⊢;clear hb;obtain⟨x,hxx⟩: ∃x,x=l.getD i gI:=⟨_,rfl⟩;rw[←hxx]at e1 hf;clear hxx;cases x;simp only[dM.pv]at e1 hf;cases b
   ·have hgo:=hgo ⟨by omega,rfl⟩ (by omega)
    repeat' first|simp only[go_sem,seval,hlm,e1]|(refine b9 hf (im _ _) ?_)|refine sB ?_|(first|apply pX|apply bX)<;>intro hc|refine⟨oD,?_⟩|exact oD|fail
    refine hgo _ ?_;exact lE
   ·repeat' first|simp only[go_sem,seval,hlm,e1]|(refine b9 hf (im _ _) ?_)|refine sB ?_|(first|apply pX|apply bX)<;>intro hc|refine⟨oD,?_⟩|exact oD|fail
    all_goals rfl
  ·obtain rfl:i=l.length:=by omega
   rw[List.drop_length];repeat' first|simp only[go_sem,seval,hlm]|refine sB ?_|(first|apply pX|apply bX)<;>intro hc|refine⟨oD,?_⟩|exact oD|fail
   all_goals simp[bU]
theorem oo (l:List dM) (f:FuncId) (c:List PV) (p:dM→Bool) (hl:l.length<4611686018427387904) (h: ∀x,aA Tryz.prog f (x.pv::c) (.b (p x))):aA Tryz.prog 360 [.sl (l.map dM.pv), .fc f [] c] (.b (l.any p)):=by
 have hi:=sj l f c p hl h;have e:decide (bU p 0 l≥0)=l.any p:=by
  rw[Bool.eq_iff_iff,decide_eq_true_iff];exact eD
 refine eW Tryz.call360 Tryz.func360 ?_;repeat' first|simp only[go_sem,seval,e]|refine cP hi ?_|refine sB ?_|(first|apply pX|apply bX)<;>intro hc|refine⟨oD,?_⟩|exact oD|fail
theorem sk (l:List Bytes) (f:FuncId) (p:Bytes→Bool) (hl:l.length<4611686018427387904) (h: ∀x,aA Tryz.prog f [bV x] (.b (p x))):aA Tryz.prog 365 [.sl (l.map bV), .fn (.func f)] (E (bU p 0 l)):=by
 have hlm:(l.map bV).length=l.length:=List.length_map ..;refine eW Tryz.call365 Tryz.func365 ?_;repeat' first|simp only[go_sem,seval,hlm]|refine sB ?_|(first|apply pX|apply bX)<;>intro hc|refine⟨oD,?_⟩|exact oD|fail
 refine ai (α:=Nat) (fun i=>l.length-i) (fun i=>⟨[(0, .v (.sl (l.map bV))),(1, .v (.fn (.func f))),(7, .v (.i .i64 l.length)),(8, .v (.i .i64 (i:Nat)))],[],_⟩) (fun i=>i≤l.length∧bU p i (l.drop i)=bU p 0 l) 0 (fun _=>Nat.le_refl _) ⟨Nat.zero_le _,rfl⟩ ?_ ?_
 ·exact lE
 ·rintro i ⟨hi,hx⟩ R hR;rw[←hx]
  by_cases hlt:i<l.length
  ·have e1:=getD_map bV l [] hlt;have hf:=h (l.getD i []);have hgo:=hR (i+1);rw[←hx,aK [] hlt]at hgo;rw[aK [] hlt];simp only[bU]at hgo⊢;clear hx hR h;generalize p (l.getD i [])=b at*;generalize l.getD i []=x at*;simp only[bV]at e1 hf;cases b
   ·have hgo:=hgo ⟨by omega,rfl⟩ (by omega)
    repeat' first|simp only[go_sem,seval,hlm,e1]|refine cP hf ?_|refine sB ?_|(first|apply pX|apply bX)<;>intro hc|refine⟨oD,?_⟩|exact oD|fail
    refine hgo _ ?_;exact lE
   ·repeat' first|simp only[go_sem,seval,hlm,e1]|refine cP hf ?_|refine sB ?_|(first|apply pX|apply bX)<;>intro hc|refine⟨oD,?_⟩|exact oD|fail
    all_goals rfl
  ·obtain rfl:i=l.length:=by omega
   rw[List.drop_length];repeat' first|simp only[go_sem,seval,hlm]|refine sB ?_|(first|apply pX|apply bX)<;>intro hc|refine⟨oD,?_⟩|exact oD|fail
   all_goals simp[bU]
theorem nh (l:List Bytes) (f:FuncId) (p:Bytes→Bool) (hl:l.length<4611686018427387904) (h: ∀x,aA Tryz.prog f [bV x] (.b (p x))):aA Tryz.prog 319 [.sl (l.map bV), .fn (.func f)] (.b (l.any p)):=by
 have hi:=sk l f p hl h;have e:decide (bU p 0 l≥0)=l.any p:=by
  rw[Bool.eq_iff_iff,decide_eq_true_iff];exact eD
 refine eW Tryz.call319 Tryz.func319 ?_;repeat' first|simp only[go_sem,seval,e]|refine cP hi ?_|refine sB ?_|(first|apply pX|apply bX)<;>intro hc|refine⟨oD,?_⟩|exact oD|fail
end Go.Proofs.YtmobkhegihemeaaGreatDoor
namespace Go.Proofs.YtmobkhegihemeaaGreatDoor
open Go Go.Dom Go.Num
set_option maxRecDepth 100000
set_option maxHeartbeats 16000000
theorem HK (q:cM):aA Tryz.prog 359 [q.pv] (.b (decide (64<q.terms.length))):=by
 obtain⟨g,t,l⟩:=q;have l4:(l.map dM.pv).length=l.length:=List.length_map ..;have hd:decide ((l.length:Int)>64)=decide (64<l.length):=by rw[decide_eq_decide];omega
 unfold cM.pv;refine eW Tryz.call359 Tryz.func359 ?_;repeat' first|simp only[go_sem,seval,l4,hd]|refine sB ?_|(first|apply pX|apply bX)<;>intro hc|refine⟨oD,?_⟩|exact oD|fail
theorem I8 {m:Bytes} (lm:m.length≤8) {o:Bytes} (lo:o.length≤8) (t:dM):aA Tryz.prog 361 [t.pv, .pt (dY (m,o)) 0] (.b (!jz m o t.base)):=by
 obtain⟨b,v,n,a⟩:=t;have h:=qT lm lo b;simp only[dM.pv,dY];generalize jz m o b=z at*;refine eW Tryz.call361 Tryz.func361 ?_;repeat' first|simp only[go_sem,seval]|refine cP h ?_|refine sB ?_|(first|apply pX|apply bX)<;>intro hc|refine⟨oD,?_⟩|exact oD|fail
theorem N4 (b:Bytes):aA Tryz.prog 362 [bV b] (.b (b==[])):=by
 unfold bV;refine eW Tryz.call362 Tryz.func362 ?_;repeat' first|simp only[go_sem,seval]|refine sB ?_|(first|apply pX|apply bX)<;>intro hc|refine⟨oD,?_⟩|exact oD|fail
def aW:List (Bytes×Bytes)→Bytes
 |[]=>[]
 |g::r=>if g.2=[]then aW r else g.2
theorem tS (s:bT) (hl:s.groups.length<1000000):aA Tryz.prog 257 [s.pv] (.s (aW s.groups)):=by
 obtain⟨gs,vs,es⟩:=s;simp only at hl;have l1:(gs.map dY).length=gs.length:=List.length_map ..;unfold bT.pv;simp only;refine eW Tryz.call257 Tryz.func257 ?_;repeat' first|simp only[go_sem,seval,l1]|refine sB ?_|(first|apply pX|apply bX)<;>intro hc|refine⟨oD,?_⟩|exact oD|fail
 refine ai (α:=Nat) (fun i=>gs.length-i) (fun i=>⟨[(1, .p 1000 0 0),(6, .v (.sl (gs.map dY))),(7,E' gs.length),(8,E' i)],[(1000,⟨0,[.v (.sl (gs.map dY)), .v (.sl (vs.map bV)), .v (.sl (es.map cM.pv))],false,none⟩)],_⟩) (fun i=>i≤gs.length∧aW (gs.drop i)=aW gs) 0 (fun _=>Nat.le_refl _) ⟨Nat.zero_le _,rfl⟩ ?_ ?_
 ·exact lE
 ·rintro i ⟨hi,hf⟩ R hR;rw[←hf]
  by_cases hlt:i<gs.length
  ·have e1:=getD_map dY gs ey hlt;have hgo:=hR (i+1);rw[←hf]at hgo;rw[aK ey hlt]at hgo⊢;obtain⟨x,hx⟩: ∃x,x=gs.getD i ey:=⟨_,rfl⟩;rw[←hx]at e1 hgo⊢;clear hx hf hR;obtain⟨m,o⟩:=x;simp only[aW]at hgo⊢;simp only[dY]at e1
   by_cases ho:o=[]
   ·subst ho;simp only[if_true]at hgo⊢;have hgo:=hgo ⟨by omega,trivial⟩ (by omega)
    repeat' first|simp only[go_sem,seval,l1,e1,nn]|refine sB ?_|(first|apply pX|apply bX)<;>intro hc|refine⟨oD,?_⟩|exact oD|fail
    refine hgo _ ?_;exact lE
   ·have hb:(o==([]:Bytes))=false:=by simpa using ho
    rw[if_neg ho];repeat' first|simp only[go_sem,seval,l1,e1,hb]|refine sB ?_|(first|apply pX|apply bX)<;>intro hc|refine⟨oD,?_⟩|exact oD|fail
  ·obtain rfl:i=gs.length:=by omega
   rw[List.drop_length];repeat' first|simp only[go_sem,seval,l1]|refine sB ?_|(first|apply pX|apply bX)<;>intro hc|refine⟨oD,?_⟩|exact oD|fail
   all_goals rfl
theorem EI {b:Bytes} (h:b≠[]):aA Tryz.prog 258 [bV b] (E 1):=by
 have hb:(b==([]:Bytes))=false:=by simpa using h
 unfold bV;refine eW Tryz.call258 Tryz.func258 ?_;repeat' first|simp only[go_sem,seval,hb]|refine sB ?_|(first|apply pX|apply bX)<;>intro hc|refine⟨oD,?_⟩|exact oD|fail
structure mD (c sl:Bytes):Prop where
 vc:aa c=true
 vs:aa sl=true
 lc:c.length≤8
 ls:sl.length≤8
 c2:2≤num c
 s2:2≤num sl
def qG (c sl b:Bytes):Nat:=num sl*num c*num b
def Of (c sl b:Bytes):Nat:=num sl*num c*num b-(num c-1)*(num b-1)
def O5 (c sl b:Bytes):PV:= .agg [N (qG c sl b),N (Of c sl b)]
theorem Bp {b:Bytes} (h:b.length≤16):num b<bL:=Nat.lt_of_lt_of_le (aZ b) (Nat.pow_le_pow_right (by decide) h)
theorem vO {c sl b:Bytes} (hr:mD c sl) (hb:b.length≤16):qG c sl b<bR:=by
 have h1:num sl*num c<18446744073709551616*18446744073709551616:=Nat.mul_lt_mul'' (cv hr.ls) (cv hr.lc);have h2:qG c sl b<18446744073709551616*18446744073709551616*bL:=Nat.mul_lt_mul'' h1 (Bp hb);exact Nat.lt_of_lt_of_le h2 (by unfold bR bL;decide+kernel)
theorem Mv {c sl b:Bytes} (hr:mD c sl):(num c-1)*(num b-1)≤qG c sl b:=by
 unfold qG;have h1:(num c-1)*(num b-1)≤num c*num b:=Nat.mul_le_mul (by omega) (by omega)
 have h2:num c*num b≤num sl*(num c*num b):=Nat.le_mul_of_pos_left _ (by have:=hr.s2;omega)
 rw[Nat.mul_assoc];omega
theorem mq {c sl q b:Bytes} (hr:mD c sl) (vb:aa b=true) (hb:b≠[]) (lb:b.length≤16):aA Tryz.prog 260 [.agg [.s c, .s sl, .s q], .s b] (.tup [O5 c sl b,E 0]):=by
 have h64:=js;have hw:=xX;have hML:=vO hr lb;have hle:=Mv (b:=b) hr;have hnc:=cv hr.lc;have hns:=cv hr.ls;have hnb:=mR (aS vb) hb;have hb16:=Bp lb;have e1:=dt hr.vc;have e2:=dt hr.vs;have e3:=dt vb;have m1:=Ie (a:=num sl) (b:=num c) (Nat.lt_of_lt_of_le (Nat.mul_lt_mul'' hns hnc) (by unfold bR;decide+kernel)) (by omega) (by omega)
 have m2:=Ie (a:=num sl*num c) (b:=num b) hML (Nat.lt_of_lt_of_le (Nat.mul_lt_mul'' hns hnc) (by unfold bR;decide+kernel)) (by have:=vL;omega)
 have s1:=oV (a:=num c) (b:=1) (by have:=hr.c2;omega) (by omega)
 have s2:=oV (a:=num b) (b:=1) (by omega) (by have:=vL;omega)
 have m3:=Ie (a:=num c-1) (b:=num b-1) (by omega) (by omega) (by have:=vL;omega)
 have s3:=oV (a:=num sl*num c*num b) (b:=(num c-1)*(num b-1)) hle hML;rw[e1,e2]at m1;rw[e3]at m2;rw[e1]at s1;rw[e3]at s2;have hP:O5 c sl b= .agg [N (num sl*num c*num b),N (num sl*num c*num b-(num c-1)*(num b-1))]:=rfl;rw[hP];clear hML hle hP;generalize num sl*num c*num b=A at*;generalize num sl*num c=B at*;generalize A-(num c-1)*(num b-1)=C at*;generalize (num c-1)*(num b-1)=D at*;refine eW Tryz.call260 Tryz.func260 ?_;repeat' first|simp only[go_sem,seval,cE]|refine cP l8 ?_|refine cP m1 ?_|refine cP m2 ?_|refine cP s1 ?_|refine cP s2 ?_|refine cP m3 ?_|refine cP s3 ?_|refine sB ?_|(first|apply pX|apply bX)<;>intro hc|refine⟨oD,?_⟩|exact oD|fail
theorem Da {m:Bytes} (hm:m≠[]):(m.getD (m.length-1) 0).toNat%2=num m%2:=by
 obtain⟨r,c,rfl⟩: ∃r c,m=r++[c]:=⟨_,_,(List.dropLast_concat_getLast hm).symm⟩;rw[wI];have:(r++[c]).getD ((r++[c]).length-1) 0=c:=by simp[List.getD_eq_getElem?_getD]
 rw[this];omega
theorem wO {m:Bytes} (lm:m.length≤8) {o:Bytes} (lo:o.length≤8):aA Tryz.prog 49 [G m o] (E (gE m o)):=by
 have v1:=aN m;have v2:=aN o;unfold gE
 by_cases hv:aa m=true∧aa o=true
 case neg=>
  have:(aa m&&aa o)=false:=by rw[Bool.eq_false_iff];intro g;simp at g;exact hv g
  rw[this];generalize aa m=b1 at*;generalize aa o=b2 at*;refine eW Tryz.call49 Tryz.func49 ?_;repeat' first|simp only[go_sem,seval]|refine cP v1 ?_|refine cP v2 ?_|refine sB ?_|(first|apply pX|apply bX)<;>intro hc|refine⟨oD,?_⟩|exact oD|fail
  all_goals simp_all
 obtain⟨vm,vo⟩:=hv;have nm:=cv lm;have no:=cv lo;rw[vm]at v1;rw[vo]at v2
 by_cases ho:o=[]
 ·subst ho;have e0:(if !(aa m&&aa [])then(3:Int)else if(([]:Bytes)==[])then(if eA m []then 0 else 13)else if num m≤1∨num []≤1∨(num m-1)%num []≠0 then 13 else 0)=if eA m []then 0 else 13:=by
   rw[vm];rfl
  rw[e0]
  by_cases hm:m=[]
  ·subst hm;have:eA [] []=false:=by decide
   rw[this];refine eW Tryz.call49 Tryz.func49 ?_;repeat' first|simp only[go_sem,seval,nn]|refine cP v1 ?_|refine cP v2 ?_|refine sB ?_|(first|apply pX|apply bX)<;>intro hc|refine⟨oD,?_⟩|exact oD|fail
  have hb:(m==([]:Bytes))=false:=by simpa using hm
  have hl:=Da hm;have hlen:0<m.length:=List.length_pos_iff.2 hm;have hix: ∀ _:True,((m.length:Int)-1).toNat=m.length-1:=fun _=>by omega
  have hmod: ∀c:UInt8,((c.toNat:Nat):Int).tmod 2=((c.toNat%2:Nat):Int):=fun c=>rfl
  have ho8:=gP (a:=m) (b:=[8]) (aS vm) (.inr (by decide)) (by omega) (by decide)
  rw[show num ([8]:Bytes)=8 from rfl]at ho8
  have hle: ∀ _:True,decide (aO (num m) 8≤0)= !decide (8<num m):=fun _=>by
   rw[Bool.eq_iff_iff];simp only[decide_eq_true_eq,Bool.not_eq_true',decide_eq_false_iff_not];unfold aO;split<;>(try split)<;>omega
  have hg:eA m []=(decide (num m%2=1)&&decide (8<num m)):=by
   unfold eA;rw[vm,Nat.testBit_eq_decide_div_mod_eq,Nat.pow_zero,Nat.div_one];rfl
  rw[hg,←hl];generalize aO (num m) 8=cm at*;obtain⟨c,hcc⟩: ∃c,c=m.getD (m.length-1) 0:=⟨_,rfl⟩;rw[←hcc];clear hl hg e0;refine eW Tryz.call49 Tryz.func49 ?_;repeat' first|simp only[go_sem,seval,nn,hb,hix trivial,←hcc,hmod,hle trivial]|refine cP v1 ?_|refine cP v2 ?_|refine cP ho8 ?_|refine sB ?_|(first|apply pX|apply bX)<;>intro hc|refine⟨oD,?_⟩|exact oD|fail
  all_goals first|(simp_all;done)|(simp_all;omega)|skip
 have hb:(o==([]:Bytes))=false:=by simpa using ho
 have hop:num o≠0:=fun e=>ho ((mL vo).1 e)
 have e1:N (num m)= .s m:=congrArg PV.s (dT vm);have e2:N (num o)= .s o:=congrArg PV.s (dT vo);rw[vm,vo,hb];simp only[Bool.and_self,Bool.not_true,Bool.false_eq_true,if_false];have q0:(m==([]:Bytes))=decide (num m=0):=by
  have:=oM (num m) 0;rw[dT vm]at this;exact this
 have q1:(m==([1]:Bytes))=decide (num m=1):=by
  have:=oM (num m) 1;rw[dT vm]at this;exact this
 have q2:(o==([1]:Bytes))=decide (num o=1):=by
  have:=oM (num o) 1;rw[dT vo]at this;exact this
 by_cases hbad:num m=0∨num m=1∨num o=1
 ·rw[if_pos (by omega)]
  refine eW Tryz.call49 Tryz.func49 ?_;repeat' first|simp only[go_sem,seval,hb,q0,q1,q2]|refine cP v1 ?_|refine cP v2 ?_|refine sB ?_|(first|apply pX|apply bX)<;>intro hc|refine⟨oD,?_⟩|exact oD|fail
  all_goals (exfalso;simp_all)
 have h1:=nC m [1] (by omega) (by decide) (show 1≤num m by omega)
 rw[show num ([1]:Bytes)=1 from rfl]at h1
 have h2:=qJ (a:=aI (num m-1)) (b:=o) (ek _) (aS vo) (by omega) (by
  have:=lN (show num m-1<18446744073709551616 by omega)
  omega) (by omega)
 rw[aE]at h2;have hz: ∀ _:True,(aI ((num m-1)%num o)==([]:Bytes))=decide ((num m-1)%num o=0):=fun _=>by
  rw[Bool.eq_iff_iff];simp[ep]
 have t0:decide (num m=0)=false:=decide_eq_false (by omega)
 have t1:decide (num m=1)=false:=decide_eq_false (by omega)
 have t2:decide (num o=1)=false:=decide_eq_false (by omega)
 have ei:(if num m≤1∨num o≤1∨(num m-1)%num o≠0 then(13:Int)else 0)=if(num m-1)%num o=0 then 0 else 13:=by
  by_cases g:(num m-1)%num o=0
  ·rw[if_neg (by omega),if_pos g]
  ·rw[if_pos (by omega),if_neg g]
 rw[ei];refine eW Tryz.call49 Tryz.func49 ?_;repeat' first|simp only[go_sem,seval,hb,q0,q1,q2,t0,t1,t2,hz trivial]|refine cP v1 ?_|refine cP v2 ?_|refine cP h1 ?_|refine cP h2 ?_|refine sB ?_|(first|apply pX|apply bX)<;>intro hc|refine⟨oD,?_⟩|exact oD|fail
 all_goals simp_all
theorem C4 {m:Bytes} (lm:m.length≤8) (o:Bytes) {x:Bytes} (hE:gE m o=0) (vx:aa x=true):aA Tryz.prog 50 [G m o, .s x] (.b (fq m o x)):=by
 by_cases ho:o=[]
 ·subst ho;obtain⟨vm,-,m1,hr,-⟩:=fY hE;have hg:=hr rfl;have lx:=bw vx;have hor:=gP (aS vx) (aS vm) (by omega) (by omega)
  have hcm:=GI (nH vx) (nH vm);rw[dt vx,dt vm]at hcm;have hlt: ∀ _:True,decide (aO (num x) (num m)<0)=decide (num x<num m):=fun _=>SW _ _
  have e:fq m [] x=(!(x==[])&&decide (num x<num m)&&decide (Nat.gcd (num x) (num m)=1)):=by
   simp[fq,qN,hg,vx]
  rw[e];generalize aO (num x) (num m)=cm at*;refine eW Tryz.call50 Tryz.func50 ?_;repeat' first|simp only[go_sem,seval,nn,hlt trivial,JR]|refine cP hor ?_|refine cP hcm ?_|refine sB ?_|(first|apply pX|apply bX)<;>intro hc|refine⟨oD,?_⟩|exact oD|fail
  all_goals simp_all
  all_goals (intros;omega)
 ·have hb:(o==([]:Bytes))=false:=by simpa using ho
  have h:=Hh lm o x;unfold fq;rw[hb];simp only[Bool.false_eq_true,if_false];refine eW Tryz.call50 Tryz.func50 ?_;repeat' first|simp only[go_sem,seval,hb]|refine cP h ?_|refine sB ?_|(first|apply pX|apply bX)<;>intro hc|refine⟨oD,?_⟩|exact oD|fail
theorem Dm {m:Bytes} (lm:m.length≤8) {o:Bytes} {x:Nat} {ng:Bool} {e:Bytes} (hE:gE m o=0) (hx:GP m o x) (he:aa e=true) (hz:(ng&&e==[])=false):aA Tryz.prog 52 [G m o,N x, .agg [.b ng, .s e]] (N (br (num m) x ng (num e))):=by
 obtain⟨vm,-,m1,-,-⟩:=fY hE;have hp:=BV (m:=num m) hx.lt he hz (cv lm) hx.K0;rw[dt vm]at hp;refine eW Tryz.call52 Tryz.func52 ?_;repeat' first|simp only[go_sem,seval]|refine cP hp ?_|refine sB ?_|(first|apply pX|apply bX)<;>intro hc|refine⟨oD,?_⟩|exact oD|fail
noncomputable def qP (M:Nat):Nat→List (Nat×Bool×Bytes)→Nat
 |x,[]=>x
 |x,(a,ng,e)::r=>qP M (x*br M a ng (num e)%M) r
def Ef (p:Nat×Bool×Bytes):PV:= .agg [.b p.2.1, .s p.2.2]
theorem sA {m:Bytes} (lm:m.length≤8) {o:Bytes} (lo:o.length≤8) (hE:gE m o=0) (l:List (Nat×Bool×Bytes)) (hl:l.length<1000000) (h: ∀p∈l,GP m o p.1∧aa p.2.2=true∧(p.2.1&&p.2.2==[])=false):aA Tryz.prog 14 [G m o, .sl (l.map fun p=>N p.1), .sl (l.map Ef)] (.tup [N (qP (num m) 1 l),E 0]):=by
 obtain⟨vm,-,m1,-,-⟩:=fY hE;have nm:=cv lm;have hck:=wO lm lo;rw[hE]at hck;have d0:Nat×Bool×Bytes:=(0,false,[]);have l1:(l.map fun p=>N p.1).length=l.length:=List.length_map ..
 have l2:(l.map Ef).length=l.length:=List.length_map ..;have g1: ∀{i:Nat},i<l.length→(l.map fun p=>N p.1).getD i .fn0=N (l.getD i d0).1:=fun hi=>getD_map (fun p=>N p.1) l d0 hi
 have g2: ∀{i:Nat},i<l.length→(l.map Ef).getD i .fn0=Ef (l.getD i d0):=fun hi=>getD_map Ef l d0 hi
 refine eW Tryz.call14 Tryz.func14 ?_;repeat' first|simp only[go_sem,seval]|refine sB ?_|(first|apply pX|apply bX)<;>intro hc|refine⟨oD,?_⟩|exact oD|fail
 refine ai (α:=Nat) (fun i=>l.length-i) (fun i=>⟨[(1, .v (.sl (l.map fun p=>N p.1))),(2, .v (.sl (l.map Ef))),(3, .p 1000 0 0),(8,E' i)],[(1000,⟨0,[.v (.s m), .v (.s o)],false,none⟩)],_⟩) (fun i=>i≤l.length) 0 (fun _=>Nat.le_refl _) (Nat.zero_le _) ?_ ?_
 ·exact lE
 ·intro i hi R hR
  by_cases hlt:i<l.length
  ·obtain⟨k1,k2,k3⟩:=h _ (ax d0 hlt);have e1:=g1 hlt;have hv:=aN (aI (l.getD i d0).1);have:=k1.lt;rw[vN (show(l.getD i d0).1<18446744073709551616 by omega)]at hv
   clear k1 k2 k3 this;have hgo:=hR (i+1) (by omega) (by omega)
   repeat' first|simp only[go_sem,seval,l1,e1]|refine cP hv ?_|refine sB ?_|(first|apply pX|apply bX)<;>intro hc|refine⟨oD,?_⟩|exact oD|fail
   refine hgo _ ?_;exact lE
  ·obtain rfl:i=l.length:=by omega
   repeat' first|simp only[go_sem,seval,l1]|refine sB ?_|(first|apply pX|apply bX)<;>intro hc|refine⟨oD,?_⟩|exact oD|fail
   refine ai (α:=Nat) (fun i=>l.length-i) (fun i=>⟨[(1, .v (.sl (l.map fun p=>N p.1))),(2, .v (.sl (l.map Ef))),(3, .p 1000 0 0),(9,E' i)],[(1000,⟨0,[.v (.s m), .v (.s o)],false,none⟩)],_⟩) (fun i=>i≤l.length) 0 (fun _=>Nat.le_refl _) (Nat.zero_le _) ?_ ?_
   ·exact lE
   ·intro i hi R hR
    by_cases hlt:i<l.length
    ·obtain⟨k1,k2,k3⟩:=h _ (ax d0 hlt);have e1:=g2 hlt;have hv:=kY (l.getD i d0).2.1 (l.getD i d0).2.2;rw[k2,k3]at hv;clear k1 k2 k3;have hgo:=hR (i+1) (by omega) (by omega)
     repeat' first|simp only[go_sem,seval,l2,e1,Ef]|refine cP hv ?_|refine sB ?_|(first|apply pX|apply bX)<;>intro hc|refine⟨oD,?_⟩|exact oD|fail
     refine hgo _ ?_;exact lE
    ·obtain rfl:i=l.length:=by omega
     repeat' first|simp only[go_sem,seval,l1,l2]|refine cP hck ?_|refine sB ?_|(first|apply pX|apply bX)<;>intro hc|refine⟨oD,?_⟩|exact oD|fail
     refine ai (α:=Nat) (fun i=>l.length-i) (fun i=>⟨[(1, .v (.sl (l.map fun p=>N p.1))),(2, .v (.sl (l.map Ef))),(3, .p 1000 0 0),(11,E' i)],[(1000,⟨0,[.v (.s m), .v (.s o)],false,none⟩)],_⟩) (fun i=>i≤l.length) 0 (fun _=>Nat.le_refl _) (Nat.zero_le _) ?_ ?_
     ·exact lE
     ·intro i hi R hR
      by_cases hlt:i<l.length
      ·obtain⟨k1,k2,k3⟩:=h _ (ax d0 hlt);have e1:=g1 hlt;have hh:=k1.has hE lm;have hv:=C4 lm o (x:=aI (l.getD i d0).1) hE ((bG hE).1 hh).1;rw[hh]at hv;clear k1 k2 k3 hh;have hgo:=hR (i+1) (by omega) (by omega)
       repeat' first|simp only[go_sem,seval,l1,e1]|refine cP hv ?_|refine sB ?_|(first|apply pX|apply bX)<;>intro hc|refine⟨oD,?_⟩|exact oD|fail
       refine hgo _ ?_;exact lE
      ·obtain rfl:i=l.length:=by omega
       repeat' first|simp only[go_sem,seval,l1]|refine sB ?_|(first|apply pX|apply bX)<;>intro hc|refine⟨oD,?_⟩|exact oD|fail
       refine ai (α:=Nat×Nat) (fun s=>l.length-s.1) (fun s=>⟨[(1, .v (.sl (l.map fun p=>N p.1))),(2, .v (.sl (l.map Ef))),(3, .p 1000 0 0),(12, .v (N s.2)),(13,E' s.1)],[(1000,⟨0,[.v (.s m), .v (.s o)],false,none⟩)],_⟩) (fun s=>s.1≤l.length∧s.2<num m∧qP (num m) s.2 (l.drop s.1)=qP (num m) 1 l) (0,1) (fun _=>Nat.le_refl _) ⟨Nat.zero_le _,m1,rfl⟩ ?_ ?_
       ·(refine AS.Le.of (by first|decide|omega) ?_ ?_<;>simp[bz,bA,aD,ak,AV.bd,AV.bd.bdL,u8,af,ah,aj])
        all_goals rfl
       ·rintro⟨i,x⟩ ⟨hi,hx,hf⟩ R hR;simp only at hi hx hf
        by_cases hlt:i<l.length
        ·obtain⟨k1,k2,k3⟩:=h _ (ax d0 hlt);have e1:=g1 hlt;have e2:=g2 hlt;rw[aK d0 hlt]at hf;have hraw:=Dm lm hE k1 k2 k3;have hpl:br (num m) (l.getD i d0).1 (l.getD i d0).2.1 (num (l.getD i d0).2.2)<num m:=Nat.mod_lt _ (by omega)
         have hgo:=hR (i+1,x*br (num m) (l.getD i d0).1 (l.getD i d0).2.1 (num (l.getD i d0).2.2)%num m) ⟨by show i+1≤ _;omega,Nat.mod_lt _ (by omega),hf⟩ (by show l.length-(i+1)<l.length-i;omega)
         clear hf hR k1 k2 k3;generalize br (num m) (l.getD i d0).1 (l.getD i d0).2.1 (num (l.getD i d0).2.2)=y at*;have hmm:=O0 (a:=x) (b:=y) (m:=num m) (by omega) (by omega) nm (by omega)
         rw[dt vm]at hmm;repeat' first|simp only[go_sem,seval,l1,l2,e1,e2,Ef]|refine cP hraw ?_|refine cP hmm ?_|refine sB ?_|(first|apply pX|apply bX)<;>intro hc|refine⟨oD,?_⟩|exact oD|fail
         refine hgo _ ?_;exact lE
        ·obtain rfl:i=l.length:=by omega
         rw[List.drop_length]at hf;simp only[qP]at hf;rw[←hf];repeat' first|simp only[go_sem,seval,l1]|refine sB ?_|(first|apply pX|apply bX)<;>intro hc|refine⟨oD,?_⟩|exact oD|fail
end Go.Proofs.YtmobkhegihemeaaGreatDoor
