/-
  Part of the proof, part Y33. Own work.
-/
import Derived.Test.YtmledjfbgjnknaaGreatDoorY32
set_option linter.all false
namespace Go.Proofs.YtmledjfbgjnknaaGreatDoor
open Go Go.Dom Go.Num
set_option maxRecDepth 100000
set_option maxHeartbeats 8000000
structure Trm where
 (base:Bytes) (var:Int) (neg:Bool) (abs:Bytes)
def Trm.pv:Trm→PV
 |⟨b,v,n,a⟩=> .agg [.s b, .i .i64 v, .b n, .s a]
structure Eqn where
 (grp:Int) (tgt:Bytes) (terms:List Trm)
def Eqn.pv:Eqn→PV
 |⟨g,t,l⟩=> .agg [.i .i64 g, .s t, .sl (l.map Trm.pv)]
def gpv:Bytes×Bytes→PV
 |(m,o)=> .agg [.s m, .s o]
def vpv (b:Bytes):PV:= .agg [.s b]
def ipv:Bool×Bytes→PV
 |(n,a)=> .agg [.b n, .s a]
structure Stm where
 (groups:List (Bytes×Bytes)) (vars:List Bytes) (eqs:List Eqn)
def Stm.pv (s:Stm):PV:= .agg [.sl (s.groups.map gpv), .sl (s.vars.map vpv), .sl (s.eqs.map Eqn.pv)]
def ipz (z:Int):Bool×Bytes:=(zs z,zb z)
theorem ipv_ipz (z:Int):ipv (ipz z)=Z z:=rfl
def Zp (z:Int):PV:=ipv (ipz z)
def izok (x:Bool×Bytes):Bool:=validN x.2&& !(x.1&&x.2==[])
def d0T:Trm:=⟨[],0,false,[]⟩
def d0Q:Eqn:=⟨0,[],[]⟩
def d0G:Bytes×Bytes:=([],[])
def d0I:Bool×Bytes:=(false,[])
structure StOK (s:Stm):Prop where
 g: ∀p∈s.groups,gE p.1 p.2=0∧p.1.length≤8∧p.2.length≤8
 v: ∀b∈s.vars,validN b=true∧b≠[]∧b.length≤16
 q: ∀q∈s.eqs,0≤q.grp∧q.grp<s.groups.length∧gHas (s.groups.getD q.grp.toNat d0G).1 (s.groups.getD q.grp.toNat d0G).2 q.tgt=true∧q.terms.length≤64∧
  ∀t∈q.terms,0≤t.var∧t.var<s.vars.length∧gHas (s.groups.getD q.grp.toNat d0G).1 (s.groups.getD q.grp.toNat d0G).2 t.base=true∧izok (t.neg,t.abs)=true
 ng:s.groups.length≤8
 nv:s.vars.length≤64
 ne:s.eqs.length≤64
theorem getD_map {α:Type} (f:α→PV) (l:List α) (d:α) {i:Nat} (h:i<l.length):(l.map f).getD i .fn0=f (l.getD i d):=by
 simp[List.getD_eq_getElem?_getD,h]
theorem drop_getD {α:Type} {l:List α} {i:Nat} (d:α) (h:i<l.length):l.drop i=l.getD i d::l.drop (i+1):=by
 rw[List.drop_eq_getElem_cons h,List.getD_eq_getElem?_getD,List.getElem?_eq_getElem h];rfl
theorem mem_getD {α:Type} {l:List α} {i:Nat} (d:α) (h:i<l.length):l.getD i d∈l:=by
 rw[List.getD_eq_getElem?_getD,List.getElem?_eq_getElem h];exact List.getElem_mem h
theorem gHas_valid {m o x:Bytes} (hE:gE m o=0) (h:gHas m o x=true):validN x=true:=((gHas_iff hE).1 h).1
theorem IndexFuncI_ok (l:List (Bool×Bytes)) (f:FuncId) (p:(Bool×Bytes)→Bool) (hl:l.length<4611686018427387904) (h: ∀x,EvP Tryz.prog f [ipv x] (.b (p x))):EvP Tryz.prog 221 [.sl (l.map ipv), .fn (.func f)] (E (idxF p 0 l)):=by
 have hlm:(l.map ipv).length=l.length:=List.length_map ..;refine eW Tryz.call221 Tryz.func221 ?_;repeat' first|simp only[go_sem,seval,hlm]|refine sB ?_|(first|apply pX|apply bX)<;>intro hc|refine⟨oD,?_⟩|exact oD|fail
 refine loop_run (α:=Nat) (fun i=>l.length-i) (fun i=>⟨[(0, .v (.sl (l.map ipv))),(1, .v (.fn (.func f))),(7, .v (.i .i64 l.length)),(8, .v (.i .i64 (i:Nat)))],[],_⟩) (fun i=>i≤l.length∧idxF p i (l.drop i)=idxF p 0 l) 0 (fun _=>Nat.le_refl _) ⟨Nat.zero_le _,rfl⟩ ?_ ?_
 ·exact lE
 ·rintro i ⟨hi,hx⟩ R hR;rw[←hx]
  by_cases hlt:i<l.length
  ·have e1:=getD_map ipv l d0I hlt;have hf:=h (l.getD i d0I);have hgo:=hR (i+1);rw[←hx,drop_getD d0I hlt]at hgo;rw[drop_getD d0I hlt];simp only[idxF]at hgo⊢;clear hx hR h;obtain⟨b,hb⟩: ∃b,b=p (l.getD i d0I):=⟨_,rfl⟩;rw[←hb]at hf hgo⊢;clear hb;obtain⟨x,hxx⟩: ∃x,x=l.getD i d0I:=⟨_,rfl⟩;rw[←hxx]at e1 hf;clear hxx;cases x;simp only[ipv]at e1 hf;cases b
   ·have hgo:=hgo ⟨by omega,rfl⟩ (by omega)
    repeat' first|simp only[go_sem,seval,hlm,e1]|refine cP hf ?_|refine sB ?_|(first|apply pX|apply bX)<;>intro hc|refine⟨oD,?_⟩|exact oD|fail
    refine hgo _ ?_;exact lE
   ·repeat' first|simp only[go_sem,seval,hlm,e1]|refine cP hf ?_|refine sB ?_|(first|apply pX|apply bX)<;>intro hc|refine⟨oD,?_⟩|exact oD|fail
    all_goals rfl
  ·obtain rfl:i=l.length:=by omega
   rw[List.drop_length];repeat' first|simp only[go_sem,seval,hlm]|refine sB ?_|(first|apply pX|apply bX)<;>intro hc|refine⟨oD,?_⟩|exact oD|fail
   all_goals simp[idxF]
theorem ContainsFuncI_ok (l:List (Bool×Bytes)) (f:FuncId) (p:(Bool×Bytes)→Bool) (hl:l.length<4611686018427387904) (h: ∀x,EvP Tryz.prog f [ipv x] (.b (p x))):EvP Tryz.prog 110 [.sl (l.map ipv), .fn (.func f)] (.b (l.any p)):=by
 have hi:=IndexFuncI_ok l f p hl h;have e:decide (idxF p 0 l≥0)=l.any p:=by
  rw[Bool.eq_iff_iff,decide_eq_true_iff];exact idxF_neg
 refine eW Tryz.call110 Tryz.func110 ?_;repeat' first|simp only[go_sem,seval,e]|refine cP hi ?_|refine sB ?_|(first|apply pX|apply bX)<;>intro hc|refine⟨oD,?_⟩|exact oD|fail
theorem IndexFuncQ_ok (l:List Eqn) (f:FuncId) (p:Eqn→Bool) (hl:l.length<4611686018427387904) (h: ∀x,EvP Tryz.prog f [Eqn.pv x] (.b (p x))):EvP Tryz.prog 445 [.sl (l.map Eqn.pv), .fn (.func f)] (E (idxF p 0 l)):=by
 have hlm:(l.map Eqn.pv).length=l.length:=List.length_map ..;refine eW Tryz.call445 Tryz.func445 ?_;repeat' first|simp only[go_sem,seval,hlm]|refine sB ?_|(first|apply pX|apply bX)<;>intro hc|refine⟨oD,?_⟩|exact oD|fail
 refine loop_run (α:=Nat) (fun i=>l.length-i) (fun i=>⟨[(0, .v (.sl (l.map Eqn.pv))),(1, .v (.fn (.func f))),(7, .v (.i .i64 l.length)),(8, .v (.i .i64 (i:Nat)))],[],_⟩) (fun i=>i≤l.length∧idxF p i (l.drop i)=idxF p 0 l) 0 (fun _=>Nat.le_refl _) ⟨Nat.zero_le _,rfl⟩ ?_ ?_
 ·exact lE
 ·rintro i ⟨hi,hx⟩ R hR;rw[←hx]
  by_cases hlt:i<l.length
  ·have e1:=getD_map Eqn.pv l d0Q hlt;have hf:=h (l.getD i d0Q);have hgo:=hR (i+1);rw[←hx,drop_getD d0Q hlt]at hgo;rw[drop_getD d0Q hlt];simp only[idxF]at hgo⊢;clear hx hR h;obtain⟨b,hb⟩: ∃b,b=p (l.getD i d0Q):=⟨_,rfl⟩;rw[←hb]at hf hgo⊢;clear hb;obtain⟨x,hxx⟩: ∃x,x=l.getD i d0Q:=⟨_,rfl⟩;rw[←hxx]at e1 hf;clear hxx;cases x;simp only[Eqn.pv]at e1 hf;cases b
   ·have hgo:=hgo ⟨by omega,rfl⟩ (by omega)
    repeat' first|simp only[go_sem,seval,hlm,e1]|refine cP hf ?_|refine sB ?_|(first|apply pX|apply bX)<;>intro hc|refine⟨oD,?_⟩|exact oD|fail
    refine hgo _ ?_;exact lE
   ·repeat' first|simp only[go_sem,seval,hlm,e1]|refine cP hf ?_|refine sB ?_|(first|apply pX|apply bX)<;>intro hc|refine⟨oD,?_⟩|exact oD|fail
    all_goals rfl
  ·obtain rfl:i=l.length:=by omega
   rw[List.drop_length];repeat' first|simp only[go_sem,seval,hlm]|refine sB ?_|(first|apply pX|apply bX)<;>intro hc|refine⟨oD,?_⟩|exact oD|fail
   all_goals simp[idxF]
theorem ContainsFuncQ_ok (l:List Eqn) (f:FuncId) (p:Eqn→Bool) (hl:l.length<4611686018427387904) (h: ∀x,EvP Tryz.prog f [Eqn.pv x] (.b (p x))):EvP Tryz.prog 411 [.sl (l.map Eqn.pv), .fn (.func f)] (.b (l.any p)):=by
 have hi:=IndexFuncQ_ok l f p hl h;have e:decide (idxF p 0 l≥0)=l.any p:=by
  rw[Bool.eq_iff_iff,decide_eq_true_iff];exact idxF_neg
 refine eW Tryz.call411 Tryz.func411 ?_;repeat' first|simp only[go_sem,seval,e]|refine cP hi ?_|refine sB ?_|(first|apply pX|apply bX)<;>intro hc|refine⟨oD,?_⟩|exact oD|fail
theorem IndexFuncT_ok (l:List Trm) (f:FuncId) (c:List PV) (p:Trm→Bool) (hl:l.length<4611686018427387904) (h: ∀x,EvP Tryz.prog f (x.pv::c) (.b (p x))):EvP Tryz.prog 446 [.sl (l.map Trm.pv), .fc f [] c] (E (idxF p 0 l)):=by
 have hlm:(l.map Trm.pv).length=l.length:=List.length_map ..;refine eW Tryz.call446 Tryz.func446 ?_;repeat' first|simp only[go_sem,seval,hlm]|refine sB ?_|(first|apply pX|apply bX)<;>intro hc|refine⟨oD,?_⟩|exact oD|fail
 refine loop_run (α:=Nat) (fun i=>l.length-i) (fun i=>⟨[(0, .v (.sl (l.map Trm.pv))),(1, .v (.fc f [] c)),(7, .v (.i .i64 l.length)),(8, .v (.i .i64 (i:Nat)))],[],_⟩) (fun i=>i≤l.length∧idxF p i (l.drop i)=idxF p 0 l) 0 (fun _=>Nat.le_refl _) ⟨Nat.zero_le _,rfl⟩ ?_ ?_
 ·exact lE
 ·rintro i ⟨hi,hx⟩ R hR;rw[←hx]
  by_cases hlt:i<l.length
  ·have e1:=getD_map Trm.pv l d0T hlt;have hf:=h (l.getD i d0T);have hgo:=hR (i+1);rw[←hx,drop_getD d0T hlt]at hgo;rw[drop_getD d0T hlt];simp only[idxF]at hgo⊢;clear hx hR h;obtain⟨b,hb⟩: ∃b,b=p (l.getD i d0T):=⟨_,rfl⟩;rw[←hb]at hf hgo⊢;clear hb;obtain⟨x,hxx⟩: ∃x,x=l.getD i d0T:=⟨_,rfl⟩;rw[←hxx]at e1 hf;clear hxx;cases x;simp only[Trm.pv]at e1 hf;cases b
   ·have hgo:=hgo ⟨by omega,rfl⟩ (by omega)
    repeat' first|simp only[go_sem,seval,hlm,e1]|(refine CR_pure hf (pvA_map _ _) ?_)|refine sB ?_|(first|apply pX|apply bX)<;>intro hc|refine⟨oD,?_⟩|exact oD|fail
    refine hgo _ ?_;exact lE
   ·repeat' first|simp only[go_sem,seval,hlm,e1]|(refine CR_pure hf (pvA_map _ _) ?_)|refine sB ?_|(first|apply pX|apply bX)<;>intro hc|refine⟨oD,?_⟩|exact oD|fail
    all_goals rfl
  ·obtain rfl:i=l.length:=by omega
   rw[List.drop_length];repeat' first|simp only[go_sem,seval,hlm]|refine sB ?_|(first|apply pX|apply bX)<;>intro hc|refine⟨oD,?_⟩|exact oD|fail
   all_goals simp[idxF]
theorem ContainsFuncT_ok (l:List Trm) (f:FuncId) (c:List PV) (p:Trm→Bool) (hl:l.length<4611686018427387904) (h: ∀x,EvP Tryz.prog f (x.pv::c) (.b (p x))):EvP Tryz.prog 413 [.sl (l.map Trm.pv), .fc f [] c] (.b (l.any p)):=by
 have hi:=IndexFuncT_ok l f c p hl h;have e:decide (idxF p 0 l≥0)=l.any p:=by
  rw[Bool.eq_iff_iff,decide_eq_true_iff];exact idxF_neg
 refine eW Tryz.call413 Tryz.func413 ?_;repeat' first|simp only[go_sem,seval,e]|refine cP hi ?_|refine sB ?_|(first|apply pX|apply bX)<;>intro hc|refine⟨oD,?_⟩|exact oD|fail
theorem IndexFuncV_ok (l:List Bytes) (f:FuncId) (p:Bytes→Bool) (hl:l.length<4611686018427387904) (h: ∀x,EvP Tryz.prog f [vpv x] (.b (p x))):EvP Tryz.prog 418 [.sl (l.map vpv), .fn (.func f)] (E (idxF p 0 l)):=by
 have hlm:(l.map vpv).length=l.length:=List.length_map ..;refine eW Tryz.call418 Tryz.func418 ?_;repeat' first|simp only[go_sem,seval,hlm]|refine sB ?_|(first|apply pX|apply bX)<;>intro hc|refine⟨oD,?_⟩|exact oD|fail
 refine loop_run (α:=Nat) (fun i=>l.length-i) (fun i=>⟨[(0, .v (.sl (l.map vpv))),(1, .v (.fn (.func f))),(7, .v (.i .i64 l.length)),(8, .v (.i .i64 (i:Nat)))],[],_⟩) (fun i=>i≤l.length∧idxF p i (l.drop i)=idxF p 0 l) 0 (fun _=>Nat.le_refl _) ⟨Nat.zero_le _,rfl⟩ ?_ ?_
 ·exact lE
 ·rintro i ⟨hi,hx⟩ R hR;rw[←hx]
  by_cases hlt:i<l.length
  ·have e1:=getD_map vpv l [] hlt;have hf:=h (l.getD i []);have hgo:=hR (i+1);rw[←hx,drop_getD [] hlt]at hgo;rw[drop_getD [] hlt];simp only[idxF]at hgo⊢;clear hx hR h;generalize p (l.getD i [])=b at*;generalize l.getD i []=x at*;simp only[vpv]at e1 hf;cases b
   ·have hgo:=hgo ⟨by omega,rfl⟩ (by omega)
    repeat' first|simp only[go_sem,seval,hlm,e1]|refine cP hf ?_|refine sB ?_|(first|apply pX|apply bX)<;>intro hc|refine⟨oD,?_⟩|exact oD|fail
    refine hgo _ ?_;exact lE
   ·repeat' first|simp only[go_sem,seval,hlm,e1]|refine cP hf ?_|refine sB ?_|(first|apply pX|apply bX)<;>intro hc|refine⟨oD,?_⟩|exact oD|fail
    all_goals rfl
  ·obtain rfl:i=l.length:=by omega
   rw[List.drop_length];repeat' first|simp only[go_sem,seval,hlm]|refine sB ?_|(first|apply pX|apply bX)<;>intro hc|refine⟨oD,?_⟩|exact oD|fail
   all_goals simp[idxF]
theorem ContainsFuncV_ok (l:List Bytes) (f:FuncId) (p:Bytes→Bool) (hl:l.length<4611686018427387904) (h: ∀x,EvP Tryz.prog f [vpv x] (.b (p x))):EvP Tryz.prog 340 [.sl (l.map vpv), .fn (.func f)] (.b (l.any p)):=by
 have hi:=IndexFuncV_ok l f p hl h;have e:decide (idxF p 0 l≥0)=l.any p:=by
  rw[Bool.eq_iff_iff,decide_eq_true_iff];exact idxF_neg
 refine eW Tryz.call340 Tryz.func340 ?_;repeat' first|simp only[go_sem,seval,e]|refine cP hi ?_|refine sB ?_|(first|apply pX|apply bX)<;>intro hc|refine⟨oD,?_⟩|exact oD|fail
end Go.Proofs.YtmledjfbgjnknaaGreatDoor
namespace Go.Proofs.YtmledjfbgjnknaaGreatDoor
open Go Go.Dom Go.Num
set_option maxRecDepth 100000
set_option maxHeartbeats 16000000
theorem lform_ok {s:Stm} (hs:StOK s):EvP Tryz.prog 336 [s.pv] (E 0):=by
 obtain⟨gs,vs,es⟩:=s;obtain⟨hg,hv,hq,ng,nv,ne⟩:=hs;simp only at hg hv hq ng nv ne;have l1:(gs.map gpv).length=gs.length:=List.length_map ..;have l2:(vs.map vpv).length=vs.length:=List.length_map ..;have l3:(es.map Eqn.pv).length=es.length:=List.length_map ..;unfold Stm.pv;simp only;refine eW Tryz.call336 Tryz.func336 ?_;repeat' first|simp only[go_sem,seval,l1]|refine sB ?_|(first|apply pX|apply bX)<;>intro hc|refine⟨oD,?_⟩|exact oD|fail
 refine loop_run (α:=Nat) (fun i=>gs.length-i) (fun i=>⟨[(1, .p 1000 0 0),(12, .v (.sl (gs.map gpv))),(13,E' gs.length),(14,E' i)],[(1000,⟨0,[.v (.sl (gs.map gpv)), .v (.sl (vs.map vpv)), .v (.sl (es.map Eqn.pv))],false,none⟩)],_⟩) (fun i=>i≤gs.length) 0 (fun _=>Nat.le_refl _) (Nat.zero_le _) ?_ ?_
 ·exact lE
 ·intro i hi R hR
  by_cases hlt:i<gs.length
  ·have e1:=getD_map gpv gs d0G hlt;have k:=hg _ (mem_getD d0G hlt);have hgo:=hR (i+1) (by omega) (by omega)
   obtain⟨x,hx⟩: ∃x,x=gs.getD i d0G:=⟨_,rfl⟩;rw[←hx]at e1 k;obtain⟨m,o⟩:=x;obtain⟨vm,vo,-⟩:=gE_m k.1;have v1:=natValid m;have v2:=natValid o;rw[vm]at v1;rw[vo]at v2;clear hR hx k vm vo;simp only[gpv]at e1;repeat' first|simp only[go_sem,seval,l1,e1]|refine cP v1 ?_|refine cP v2 ?_|refine sB ?_|(first|apply pX|apply bX)<;>intro hc|refine⟨oD,?_⟩|exact oD|fail
   refine hgo _ ?_;exact lE
  ·obtain rfl:i=gs.length:=by omega
   repeat' first|simp only[go_sem,seval,l1,l2]|refine sB ?_|(first|apply pX|apply bX)<;>intro hc|refine⟨oD,?_⟩|exact oD|fail
   refine loop_run (α:=Nat) (fun i=>vs.length-i) (fun i=>⟨[(1, .p 1000 0 0),(30, .v (.sl (vs.map vpv))),(31,E' vs.length),(32,E' i)],[(1000,⟨0,[.v (.sl (gs.map gpv)), .v (.sl (vs.map vpv)), .v (.sl (es.map Eqn.pv))],false,none⟩)],_⟩) (fun i=>i≤vs.length) 0 (fun _=>Nat.le_refl _) (Nat.zero_le _) ?_ ?_
   ·exact lE
   ·intro i hi R hR
    by_cases hlt:i<vs.length
    ·have e1:=getD_map vpv vs [] hlt;have k:=hv _ (mem_getD [] hlt);have hgo:=hR (i+1) (by omega) (by omega)
     obtain⟨x,hx⟩: ∃x,x=vs.getD i []:=⟨_,rfl⟩;rw[←hx]at e1 k;have v1:=natValid x;rw[k.1]at v1;clear hR hx k;simp only[vpv]at e1;repeat' first|simp only[go_sem,seval,l2,e1]|refine cP v1 ?_|refine sB ?_|(first|apply pX|apply bX)<;>intro hc|refine⟨oD,?_⟩|exact oD|fail
     refine hgo _ ?_;exact lE
    ·obtain rfl:i=vs.length:=by omega
     repeat' first|simp only[go_sem,seval,l2,l3]|refine sB ?_|(first|apply pX|apply bX)<;>intro hc|refine⟨oD,?_⟩|exact oD|fail
     refine loop_run (α:=Nat) (fun i=>es.length-i) (fun i=>⟨[(1, .p 1000 0 0),(42, .v (.sl (es.map Eqn.pv))),(43,E' es.length),(44,E' i)],[(1000,⟨0,[.v (.sl (gs.map gpv)), .v (.sl (vs.map vpv)), .v (.sl (es.map Eqn.pv))],false,none⟩)],_⟩) (fun i=>i≤es.length) 0 (fun _=>Nat.le_refl _) (Nat.zero_le _) ?_ ?_
     ·exact lE
     ·intro i hi R hR
      by_cases hlt:i<es.length
      ·have e1:=getD_map Eqn.pv es d0Q hlt;obtain⟨q1,q2,q3,q4,q5⟩:=hq _ (mem_getD d0Q hlt);have hgo:=hR (i+1) (by omega) (by omega)
       obtain⟨x,hx⟩: ∃x,x=es.getD i d0Q:=⟨_,rfl⟩;rw[←hx]at e1 q1 q2 q3 q4 q5;obtain⟨gr,tg,ts⟩:=x;simp only at q1 q2 q3 q4 q5;have hgE:=(hg _ (mem_getD d0G (show gr.toNat<gs.length by omega))).1
       have v1:=natValid tg;rw[gHas_valid hgE q3]at v1;have l4:(ts.map Trm.pv).length=ts.length:=List.length_map ..;simp only[Eqn.pv]at e1;clear hR hx q3;have hd1:decide (gr<0)=false:=decide_eq_false (by omega)
       have hd2:decide (gr≥(gs.length:Int))=false:=decide_eq_false (by omega)
       repeat' first|simp only[go_sem,seval,l1,l3,l4,e1,hd1,hd2]|refine cP v1 ?_|refine sB ?_|(first|apply pX|apply bX)<;>intro hc|refine⟨oD,?_⟩|exact oD|fail
       refine loop_run (α:=Nat) (fun i=>ts.length-i) (fun j=>⟨[(1, .p 1000 0 0),(42, .v (.sl (es.map Eqn.pv))),(43,E' es.length),(44,E' i),(66, .v (.sl (ts.map Trm.pv))),(67,E' ts.length),(68,E' j)],[(1000,⟨0,[.v (.sl (gs.map gpv)), .v (.sl (vs.map vpv)), .v (.sl (es.map Eqn.pv))],false,none⟩)],_⟩) (fun i=>i≤ts.length) 0 (fun _=>Nat.le_refl _) (Nat.zero_le _) ?_ ?_
       ·exact lE
       ·intro j hj R' hR'
        by_cases hjt:j<ts.length
        ·have e2:=getD_map Trm.pv ts d0T hjt;obtain⟨t1,t2,t3,t4⟩:=q5 _ (mem_getD d0T hjt);have hgo':=hR' (j+1) (by omega) (by omega)
         obtain⟨y,hy⟩: ∃y,y=ts.getD j d0T:=⟨_,rfl⟩;rw[←hy]at e2 t1 t2 t3 t4;obtain⟨b,v,n,a⟩:=y;simp only at t1 t2 t3 t4;have v2:=natValid b;rw[gHas_valid hgE t3]at v2;have v3:=iValid_ok n a;rw[show(validN a&& !(n&&a==[]))=true from t4]at v3
         simp only[Trm.pv]at e2;clear hR' hy t3 t4 q5;have hd3:decide (v<0)=false:=decide_eq_false (by omega)
         have hd4:decide (v≥(vs.length:Int))=false:=decide_eq_false (by omega)
         repeat' first|simp only[go_sem,seval,l2,l4,e2,hd3,hd4]|refine cP v2 ?_|refine cP v3 ?_|refine sB ?_|(first|apply pX|apply bX)<;>intro hc|refine⟨oD,?_⟩|exact oD|fail
         refine hgo' _ ?_;exact lE
        ·obtain rfl:j=ts.length:=by omega
         repeat' first|simp only[go_sem,seval,l3,l4]|refine sB ?_|(first|apply pX|apply bX)<;>intro hc|refine⟨oD,?_⟩|exact oD|fail
         refine hgo _ ?_;exact lE
      ·obtain rfl:i=es.length:=by omega
       repeat' first|simp only[go_sem,seval,l3]|refine sB ?_|(first|apply pX|apply bX)<;>intro hc|refine⟨oD,?_⟩|exact oD|fail
theorem lsz1_ok (q:Eqn):EvP Tryz.prog 412 [q.pv] (.b (decide (64<q.terms.length))):=by
 obtain⟨g,t,l⟩:=q;have l4:(l.map Trm.pv).length=l.length:=List.length_map ..;have hd:decide ((l.length:Int)>64)=decide (64<l.length):=by rw[decide_eq_decide];omega
 unfold Eqn.pv;refine eW Tryz.call412 Tryz.func412 ?_;repeat' first|simp only[go_sem,seval,l4,hd]|refine sB ?_|(first|apply pX|apply bX)<;>intro hc|refine⟨oD,?_⟩|exact oD|fail
theorem lsizes_ok {s:Stm} (hs:StOK s):EvP Tryz.prog 337 [s.pv] (E 0):=by
 have hq:=hs.q;have h1:=ContainsFuncQ_ok s.eqs _ _ (by have:=hs.ne;omega) lsz1_ok
 have h2:(s.eqs.any fun q=>decide (64<q.terms.length))=false:=by
  rw[Bool.eq_false_iff];intro g;obtain⟨q,h3,h4⟩:=List.any_eq_true.1 g;have:=(hq q h3).2.2.2.1;simp at h4;omega
 rw[h2]at h1;obtain⟨gs,vs,es⟩:=s;have ng:=hs.ng;have nv:=hs.nv;have ne:=hs.ne;simp only at ng nv ne h1;have l1:(gs.map gpv).length=gs.length:=List.length_map ..;have l2:(vs.map vpv).length=vs.length:=List.length_map ..;have l3:(es.map Eqn.pv).length=es.length:=List.length_map ..;clear hs h2 hq;unfold Stm.pv;simp only;refine eW Tryz.call337 Tryz.func337 ?_;repeat' first|simp only[go_sem,seval,l1,l2,l3]|refine cP h1 ?_|refine sB ?_|(first|apply pX|apply bX)<;>intro hc|refine⟨oD,?_⟩|exact oD|fail
theorem lel1_ok {m:Bytes} (lm:m.length≤8) {o:Bytes} (lo:o.length≤8) (t:Trm):EvP Tryz.prog 414 [t.pv, .pt (gpv (m,o)) 0] (.b (!gIn m o t.base)):=by
 obtain⟨b,v,n,a⟩:=t;have h:=gIn_ok lm lo b;simp only[Trm.pv,gpv];generalize gIn m o b=z at*;refine eW Tryz.call414 Tryz.func414 ?_;repeat' first|simp only[go_sem,seval]|refine cP h ?_|refine sB ?_|(first|apply pX|apply bX)<;>intro hc|refine⟨oD,?_⟩|exact oD|fail
theorem lelements_ok {s:Stm} (hs:StOK s):EvP Tryz.prog 338 [s.pv] (E 0):=by
 obtain⟨gs,vs,es⟩:=s;obtain⟨hg,hv,hq,ng,nv,ne⟩:=hs;simp only at hg hv hq ng nv ne;have l1:(gs.map gpv).length=gs.length:=List.length_map ..;have l3:(es.map Eqn.pv).length=es.length:=List.length_map ..;unfold Stm.pv;simp only;refine eW Tryz.call338 Tryz.func338 ?_;repeat' first|simp only[go_sem,seval,l1]|refine sB ?_|(first|apply pX|apply bX)<;>intro hc|refine⟨oD,?_⟩|exact oD|fail
 refine loop_run (α:=Nat) (fun i=>gs.length-i) (fun i=>⟨[(1, .p 1000 0 0),(9, .v (.sl (gs.map gpv))),(10,E' gs.length),(11,E' i)],[(1000,⟨0,[.v (.sl (gs.map gpv)), .v (.sl (vs.map vpv)), .v (.sl (es.map Eqn.pv))],false,none⟩)],_⟩) (fun i=>i≤gs.length) 0 (fun _=>Nat.le_refl _) (Nat.zero_le _) ?_ ?_
 ·exact lE
 ·intro i hi R hR
  by_cases hlt:i<gs.length
  ·have e1:=getD_map gpv gs d0G hlt;have k:=hg _ (mem_getD d0G hlt);have hgo:=hR (i+1) (by omega) (by omega)
   obtain⟨x,hx⟩: ∃x,x=gs.getD i d0G:=⟨_,rfl⟩;rw[←hx]at e1 k;obtain⟨m,o⟩:=x;have v1:=gCheck_ok k.2.1 k.2.2;rw[k.1]at v1;clear hR hx k;simp only[gpv]at e1;repeat' first|simp only[go_sem,seval,l1,e1]|refine cP v1 ?_|refine sB ?_|(first|apply pX|apply bX)<;>intro hc|refine⟨oD,?_⟩|exact oD|fail
   refine hgo _ ?_;exact lE
  ·obtain rfl:i=gs.length:=by omega
   repeat' first|simp only[go_sem,seval,l1,l3]|refine sB ?_|(first|apply pX|apply bX)<;>intro hc|refine⟨oD,?_⟩|exact oD|fail
   refine loop_run (α:=Nat) (fun i=>es.length-i) (fun i=>⟨[(1, .p 1000 0 0),(20, .v (.sl (es.map Eqn.pv))),(21,E' es.length),(22,E' i)],[(1000,⟨0,[.v (.sl (gs.map gpv)), .v (.sl (vs.map vpv)), .v (.sl (es.map Eqn.pv))],false,none⟩)],_⟩) (fun i=>i≤es.length) 0 (fun _=>Nat.le_refl _) (Nat.zero_le _) ?_ ?_
   ·exact lE
   ·intro i hi R hR
    by_cases hlt:i<es.length
    ·have e1:=getD_map Eqn.pv es d0Q hlt;obtain⟨q1,q2,q3,q4,q5⟩:=hq _ (mem_getD d0Q hlt);have hgo:=hR (i+1) (by omega) (by omega)
     obtain⟨x,hx⟩: ∃x,x=es.getD i d0Q:=⟨_,rfl⟩;rw[←hx]at e1 q1 q2 q3 q4 q5;obtain⟨gr,tg,ts⟩:=x;simp only at q1 q2 q3 q4 q5;have hgl:gr.toNat<gs.length:=by omega
     have kg:=hg _ (mem_getD d0G hgl);have e3:=getD_map gpv gs d0G hgl;obtain⟨z,hz⟩: ∃z,z=gs.getD gr.toNat d0G:=⟨_,rfl⟩;rw[←hz]at q3 q5 kg e3;obtain⟨m,o⟩:=z;simp only at q3 q5 kg;have v1:=gIn_ok kg.2.1 kg.2.2 tg;have g1:gIn m o tg=true:=by simp[gIn,kg.1,q3]
     rw[g1]at v1;have v2:=ContainsFuncT_ok ts _ _ _ (by omega) (lel1_ok kg.2.1 kg.2.2)
     have g2:(ts.any fun t=> !gIn m o t.base)=false:=by
      rw[Bool.eq_false_iff];intro g;obtain⟨t,h3,h4⟩:=List.any_eq_true.1 g;have:=(q5 t h3).2.2.1;simp[gIn,kg.1,this]at h4
     rw[g2]at v2;simp only[gpv]at e3 v2;simp only[Eqn.pv]at e1;clear hR hx hz q3 q5 kg g1 g2;repeat' first|simp only[go_sem,seval,l1,l3,e1,e3,viewN]|refine cP v1 ?_|refine cV v2 ?_|refine sB ?_|(first|apply pX|apply bX)<;>intro hc|refine⟨oD,?_⟩|exact oD|fail
     refine hgo _ ?_;exact lE
    ·obtain rfl:i=es.length:=by omega
     repeat' first|simp only[go_sem,seval,l3]|refine sB ?_|(first|apply pX|apply bX)<;>intro hc|refine⟨oD,?_⟩|exact oD|fail
theorem lk1_ok (b:Bytes):EvP Tryz.prog 415 [vpv b] (.b (b==[])):=by
 unfold vpv;refine eW Tryz.call415 Tryz.func415 ?_;repeat' first|simp only[go_sem,seval]|refine sB ?_|(first|apply pX|apply bX)<;>intro hc|refine⟨oD,?_⟩|exact oD|fail
theorem lkinds_ok {s:Stm} (hs:StOK s):EvP Tryz.prog 339 [s.pv] (E 0):=by
 have hv:=hs.v;have h1:=ContainsFuncV_ok s.vars _ _ (by have:=hs.nv;omega) lk1_ok
 have h2:(s.vars.any fun b=>b==[])=false:=by
  rw[Bool.eq_false_iff];intro g;obtain⟨b,h3,h4⟩:=List.any_eq_true.1 g;exact(hv b h3).2.1 (by simpa using h4)
 rw[h2]at h1;obtain⟨gs,vs,es⟩:=s;simp only at h1;clear hs h2 hv;unfold Stm.pv;simp only;refine eW Tryz.call339 Tryz.func339 ?_;repeat' first|simp only[go_sem,seval]|refine cP h1 ?_|refine sB ?_|(first|apply pX|apply bX)<;>intro hc|refine⟨oD,?_⟩|exact oD|fail
theorem lCheck_ok {s:Stm} (hs:StOK s):EvP Tryz.prog 219 [s.pv] (E 0):=by
 have h1:=lform_ok hs;have h2:=lsizes_ok hs;have h3:=lelements_ok hs;have h4:=lkinds_ok hs;clear hs;unfold Stm.pv at*;refine eW Tryz.call219 Tryz.func219 ?_;repeat' first|simp only[go_sem,seval]|refine cP h1 ?_|refine cP h2 ?_|refine cP h3 ?_|refine cP h4 ?_|(refine loop_unroll' ?_)|refine sB ?_|(first|apply pX|apply bX)<;>intro hc|refine⟨oD,?_⟩|exact oD|fail
end Go.Proofs.YtmledjfbgjnknaaGreatDoor
