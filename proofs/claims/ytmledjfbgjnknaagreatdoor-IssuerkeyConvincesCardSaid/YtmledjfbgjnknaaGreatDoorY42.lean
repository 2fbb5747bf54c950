/-
  Part of the proof, part Y42. Own work.
-/
import Derived.Test.YtmledjfbgjnknaaGreatDoorY41
import Derived.Test.YtmledjfbgjnknaaGreatDoorY39
set_option linter.all false
namespace Go.Proofs.YtmledjfbgjnknaaGreatDoor
open Go Go.Dom Go.Num
set_option maxRecDepth 100000
set_option maxHeartbeats 16000000
def okR (c sl:Bytes) (vs:List Bytes) (l:List (Bool×Bytes)):Bool:=(List.range vs.length).all fun i=>decide (num (l.getD i d0I).2<limR c sl (vs.getD i []))
def firE (c sl:Bytes) (vs:List Bytes) (ch:Bytes) (l:List (Bool×Bytes)):Int:=
 if !(validN ch&&l.all izok)then 3 else if num c≤num ch then 2 else if l.length≠vs.length then 6 else if !okR c sl vs l then 2 else 0
noncomputable def firL (c sl:Bytes) (s:Stm) (ch:Bytes) (l:List (Bool×Bytes)):List PV:=
 if firE c sl s.vars ch l=0 then s.eqs.map fun q=>N (msgQ s.groups ch l q)else[]
theorem okR_bad {c sl:Bytes} {vs:List Bytes} {l:List (Bool×Bytes)} {i:Nat} (hi:i<vs.length) (h: ¬num (l.getD i d0I).2<limR c sl (vs.getD i [])):okR c sl vs l=false:=by
 unfold okR;rw[Bool.eq_false_iff];intro g;have:=List.all_eq_true.1 g i (List.mem_range.2 hi);exact h (by simpa using this)
theorem okR_good {c sl:Bytes} {vs:List Bytes} {l:List (Bool×Bytes)} (h: ∀i,i<vs.length→num (l.getD i d0I).2<limR c sl (vs.getD i [])):okR c sl vs l=true:=by
 unfold okR;rw[List.all_eq_true];intro i hi;exact decide_eq_true (h i (List.mem_range.1 hi))
theorem limR_lt {c sl b:Bytes} (hr:RuOK c sl) (hb:b.length≤16):limR c sl b<LIM:=Nat.lt_of_le_of_lt (Nat.sub_le _ _) (limM_lt hr hb)
theorem sFirst_ok {c sl:Bytes} (hr:RuOK c sl) {s:Stm} (hs:StOK s) (h0:s.vars≠[]) (h1:s.eqs≠[]) {ch:Bytes} {l:List (Bool×Bytes)} (hll:l.length<1000000):EvP Tryz.prog 190 [.agg [.s c, .s sl],s.pv, .s ch, .sl (l.map ipv)] (.tup [.sl (firL c sl s ch l),E (firE c sl s.vars ch l)]):=by
 have hb:=sBounds_ok hr hs h0;have vh:=natValid ch;have hi:=sints_ok l hll;have l5:(l.map ipv).length=l.length:=List.length_map ..;have l2:(s.vars.map vpv).length=s.vars.length:=List.length_map ..;have l6:(s.vars.map fun b=>N (limR c sl b)).length=s.vars.length:=List.length_map ..
 have nv:=hs.nv
 by_cases g1:validN ch=true∧l.all izok=true
 case neg=>
  have e:(validN ch&&l.all izok)=false:=by rw[Bool.eq_false_iff];intro g;simp at g;exact g1 ⟨g.1,by simpa[List.all_eq_true]using g.2⟩
  have e2:firE c sl s.vars ch l=3:=by simp only[firE,e];rfl
  rw[firL,if_neg (by rw[e2];decide),e2]
  clear e2 hs;unfold Stm.pv at*;generalize validN ch=b1 at*;generalize l.all izok=b2 at*;refine eW Tryz.call190 Tryz.func190 ?_;repeat' first|simp only[go_sem,seval]|refine cP hb ?_|refine cP vh ?_|refine cP hi ?_|refine sB ?_|(first|apply pX|apply bX)<;>intro hc|refine⟨oD,?_⟩|exact oD|fail
  all_goals (exfalso;simp_all)
 obtain⟨vc,hok⟩:=g1;rw[vc]at vh;rw[hok]at hi;have hcm:=cmpVV vc hr.vc
 by_cases g2:num c≤num ch
 ·have e2:firE c sl s.vars ch l=2:=by simp only[firE,vc,hok];rw[if_neg (by simp),if_pos g2]
  have hd: ∀ _:True,decide (cmpN (num ch) (num c)≥0)=true:=fun _=>decide_eq_true (cmpN_ge.2 g2)
  rw[firL,if_neg (by rw[e2];decide),e2]
  generalize cmpN (num ch) (num c)=cm at*;clear e2 hs;unfold Stm.pv at*;refine eW Tryz.call190 Tryz.func190 ?_;repeat' first|simp only[go_sem,seval,hd trivial]|refine cP hb ?_|refine cP vh ?_|refine cP hi ?_|refine cP hcm ?_|refine sB ?_|(first|apply pX|apply bX)<;>intro hc|refine⟨oD,?_⟩|exact oD|fail
 have hd: ∀ _:True,decide (cmpN (num ch) (num c)≥0)=false:=fun _=>decide_eq_false (fun g=>g2 (cmpN_ge.1 g))
 by_cases g3:l.length=s.vars.length
 case neg=>
  have e2:firE c sl s.vars ch l=6:=by simp only[firE,vc,hok];rw[if_neg (by simp),if_neg g2,if_pos g3]
  rw[firL,if_neg (by rw[e2];decide),e2]
  generalize cmpN (num ch) (num c)=cm at*;clear e2 hs;unfold Stm.pv at*;refine eW Tryz.call190 Tryz.func190 ?_;repeat' first|simp only[go_sem,seval,hd trivial,l5,l2]|refine cP hb ?_|refine cP vh ?_|refine cP hi ?_|refine cP hcm ?_|refine sB ?_|(first|apply pX|apply bX)<;>intro hc|refine⟨oD,?_⟩|exact oD|fail
  all_goals (exfalso;omega)
 have hms:=smessages_ok hs h1 vc g3 (List.all_eq_true.1 hok);have hv:=hs.v;have hval: ∀x∈l,validN x.2=true:=fun x hx=>by
  have:=List.all_eq_true.1 hok x hx;simp only[izok,Bool.and_eq_true]at this;exact this.1
 have e0:firE c sl s.vars ch l=if !okR c sl s.vars l then 2 else 0:=by
  simp only[firE,vc,hok];rw[if_neg (by simp),if_neg g2,if_neg (by omega)]
 unfold firL;rw[e0];clear e0 hs hok;obtain⟨gs,vs,es⟩:=s;simp only at*;unfold Stm.pv at*;simp only at*;generalize cmpN (num ch) (num c)=cm at*;refine eW Tryz.call190 Tryz.func190 ?_;repeat' first|simp only[go_sem,seval,hd trivial,l5,l2]|refine cP hb ?_|refine cP vh ?_|refine cP hi ?_|refine cP hcm ?_|refine sB ?_|(first|apply pX|apply bX)<;>intro hc|refine⟨oD,?_⟩|exact oD|fail
 refine loop_run (α:=Nat) (fun i=>vs.length-i) (fun i=>⟨[(2, .v (.s ch)),(3, .v (.sl (l.map ipv))),(5, .p 1001 0 0),(11, .v (.sl (vs.map fun b=>N (limR c sl b)))),(45, .v (.sl (vs.map vpv))),(46,E' vs.length),(47,E' i)],[(1001,⟨0,[.v (.sl (gs.map gpv)), .v (.sl (vs.map vpv)), .v (.sl (es.map Eqn.pv))],false,none⟩)],_⟩) (fun i=>i≤vs.length∧ ∀j,j<i→num (l.getD j d0I).2<limR c sl (vs.getD j [])) 0 (fun _=>Nat.le_refl _) ⟨Nat.zero_le _,fun j hj=>by omega⟩ ?_ ?_
 ·exact lE
 ·rintro i ⟨hi',hf⟩ R hR
  by_cases hlt:i<vs.length
  ·have e1:=getD_map vpv vs [] hlt;have e2:=getD_map (fun b=>N (limR c sl b)) vs [] hlt
   have hlt2:i<l.length:=by omega
   have e3:=getD_map ipv l d0I hlt2;obtain⟨k1,k2,k3⟩:=hv _ (mem_getD [] hlt);have kv:=hval _ (mem_getD d0I hlt2);have ad:=sadmits_ok k2 (n:=(l.getD i d0I).1) kv (limR_lt hr k3);have hgo:=hR (i+1)
   by_cases hc2:num (l.getD i d0I).2<limR c sl (vs.getD i [])
   ·have hgo:=hgo ⟨by omega,fun j hj=>by
     by_cases e:j=i
     ·rw[e];exact hc2
     ·exact hf j (by omega)⟩ (by omega)
    rw[decide_eq_true hc2]at ad;clear hR hf hc2 kv k1 k2 k3;generalize limR c sl (vs.getD i [])=L at*;generalize vs.getD i []=b at*;obtain⟨x,hx⟩: ∃x,x=l.getD i d0I:=⟨_,rfl⟩;rw[←hx]at ad e3;clear hx;obtain⟨xn,xa⟩:=x;simp only[vpv,ipv]at*;repeat' first|simp only[go_sem,seval,l2,l5,l6,e1,e2,e3]|refine cP ad ?_|refine sB ?_|(first|apply pX|apply bX)<;>intro hc|refine⟨oD,?_⟩|exact oD|fail
    refine hgo _ ?_;exact lE
   ·rw[okR_bad hlt hc2];rw[decide_eq_false hc2]at ad;clear hR hf hgo hc2 kv k1 k2 k3;generalize limR c sl (vs.getD i [])=L at*;generalize vs.getD i []=b at*;obtain⟨x,hx⟩: ∃x,x=l.getD i d0I:=⟨_,rfl⟩;rw[←hx]at ad e3;clear hx;obtain⟨xn,xa⟩:=x;simp only[vpv,ipv]at*;repeat' first|simp only[go_sem,seval,l2,l5,l6,e1,e2,e3]|refine cP ad ?_|refine sB ?_|(first|apply pX|apply bX)<;>intro hc|refine⟨oD,?_⟩|exact oD|fail
    all_goals rfl
  ·obtain rfl:i=vs.length:=by omega
   rw[okR_good hf];repeat' first|simp only[go_sem,seval,l2]|refine cP hms ?_|refine sB ?_|(first|apply pX|apply bX)<;>intro hc|refine⟨oD,?_⟩|exact oD|fail
   all_goals rfl
end Go.Proofs.YtmledjfbgjnknaaGreatDoor
namespace Go.Dom

end Go.Dom
namespace Go.Proofs.YtmledjfbgjnknaaGreatDoor
open Go Go.Dom
set_option maxRecDepth 100000
set_option maxHeartbeats 4000000

end Go.Proofs.YtmledjfbgjnknaaGreatDoor
namespace Go.Proofs.YtmledjfbgjnknaaGreatDoor
open Go Go.Dom
set_option maxRecDepth 100000
set_option maxHeartbeats 8000000




end Go.Proofs.YtmledjfbgjnknaaGreatDoor
namespace Go.Proofs.YtmledjfbgjnknaaGreatDoor
open Go Go.Dom Go.Num
set_option maxRecDepth 100000
set_option maxHeartbeats 8000000

end Go.Proofs.YtmledjfbgjnknaaGreatDoor
namespace Go.Proofs.YtmledjfbgjnknaaGreatDoor
open Go Go.Dom Go.Num
set_option maxRecDepth 100000
set_option maxHeartbeats 16000000



def OneT (s:Stm):Prop:= ∀q∈s.eqs,∃t,q.terms=[t]∧t.abs.length≤8

end Go.Proofs.YtmledjfbgjnknaaGreatDoor
namespace Go.Proofs.YtmledjfbgjnknaaGreatDoor
open Go Go.Dom
set_option maxRecDepth 100000
set_option maxHeartbeats 16000000
theorem svalid_ok (l:List (Bool×Bytes)) (hl:l.length<1000000):EvP Tryz.prog 133 [.sl (l.map ipv)] (.b (l.all izok)):=by
 have l5:(l.map ipv).length=l.length:=List.length_map ..;refine eW Tryz.call133 Tryz.func133 ?_;repeat' first|simp only[go_sem,seval,l5]|refine sB ?_|(first|apply pX|apply bX)<;>intro hc|refine⟨oD,?_⟩|exact oD|fail
 refine loop_run (α:=Nat) (fun i=>l.length-i) (fun i=>⟨[(5, .v (.sl (l.map ipv))),(6,E' l.length),(7,E' i)],[],_⟩) (fun i=>i≤l.length∧(l.drop i).all izok=l.all izok) 0 (fun _=>Nat.le_refl _) ⟨Nat.zero_le _,rfl⟩ ?_ ?_
 ·exact lE
 ·rintro i ⟨hi,hf⟩ R hR;rw[←hf]
  by_cases hlt:i<l.length
  ·have e1:=getD_map ipv l d0I hlt;have hgo:=hR (i+1);rw[←hf]at hgo;rw[drop_getD d0I hlt,List.all_cons]at hgo⊢;obtain⟨x,hx⟩: ∃x,x=l.getD i d0I:=⟨_,rfl⟩;rw[←hx]at e1 hgo⊢;clear hx hf hR;obtain⟨n,a⟩:=x;have hv:=iValid_ok n a;have e:izok (n,a)=(validN a&& !(n&&a==[])):=rfl;rw[e]at hgo⊢;clear e;simp only[ipv]at e1;generalize (validN a&& !(n&&a==[]))=b at*;cases b
   ·repeat' first|simp only[go_sem,seval,l5,e1]|refine cP hv ?_|refine sB ?_|(first|apply pX|apply bX)<;>intro hc|refine⟨oD,?_⟩|exact oD|fail
    all_goals simp
   ·have hgo:=hgo ⟨by omega,by simp⟩ (by omega)
    repeat' first|simp only[go_sem,seval,l5,e1]|refine cP hv ?_|refine sB ?_|(first|apply pX|apply bX)<;>intro hc|refine⟨oD,?_⟩|exact oD|fail
    refine hgo _ ?_;exact lE
  ·obtain rfl:i=l.length:=by omega
   rw[List.drop_length];repeat' first|simp only[go_sem,seval,l5]|refine sB ?_|(first|apply pX|apply bX)<;>intro hc|refine⟨oD,?_⟩|exact oD|fail
   all_goals rfl
theorem sbelow_ok {b:Bytes} (hb:b≠[]) {n:Bool} {a:Bytes} (va:validN a=true) {L:Nat} (hL:L<LIM):EvP Tryz.prog 135 [vpv b, .agg [.b n, .s a],N L] (.b (decide (num a<L))):=by
 have hk:=skind_ok hb;have hc:=cmpNN (num_of va) hL;rw[N_of va]at hc;have hd: ∀ _:True,decide (cmpN (num a) L<0)=decide (num a<L):=fun _=>by rw[Bool.eq_iff_iff];simp only[decide_eq_true_eq];exact cmpN_lt
 generalize cmpN (num a) L=cm at*;unfold vpv at hk⊢;refine eW Tryz.call135 Tryz.func135 ?_;repeat' first|simp only[go_sem,seval,hd trivial]|refine cP hc ?_|refine cP hk ?_|refine sB ?_|(first|apply pX|apply bX)<;>intro hc|refine⟨oD,?_⟩|exact oD|fail
 all_goals simp_all
theorem w0:IntKind.u32.wrap 0=0:=rfl
def m8 (x c:Nat):Nat:=(x*256+c)%4294967296



abbrev sVar:Bytes:=[118,97,114,105,97,98,108,101]
abbrev sBase:Bytes:=[98,97,115,101]
abbrev sCoef:Bytes:=[99,111,101,102,102,105,99,105,101,110,116]
abbrev sEqn:Bytes:=[101,113,117,97,116,105,111,110]
abbrev sTgt:Bytes:=[116,97,114,103,101,116]
abbrev sGrps:Bytes:=[103,114,111,117,112,115]
abbrev sBnds:Bytes:=[98,111,117,110,100,115]
def bindT (st:Bytes) (t:Trm):Bytes:=trInts (trNats (trAdd st sVar (decN t.var.toNat)) sBase [t.base]) sCoef [(t.neg,t.abs)]
def bindE (st:Bytes) (q:Eqn):Bytes:=q.terms.foldl bindT (trNats (trAdd st sEqn (decN q.grp.toNat)) sTgt [q.tgt])
def bindS (st:Bytes) (s:Stm):Bytes:=s.eqs.foldl bindE (trNats (trNats st sGrps (s.groups.flatMap fun g=>[g.1,g.2])) sBnds s.vars)
structure BdS (s:Stm):Prop where
 g: ∃m o,s.groups=[(m,o)]∧m.length≤1000∧o.length≤1000
 v0:s.vars≠[]
 nv:s.vars.length≤64
 v: ∀b∈s.vars,b.length≤1000
 ne:s.eqs.length≤64
 q: ∀q∈s.eqs,0≤q.grp∧q.grp<100∧q.tgt.length≤1000∧ ∃t,q.terms=[t]∧0≤t.var∧t.var<100∧t.base.length≤1000∧t.abs.length≤1000
theorem bindE_len (st:Bytes) {q:Eqn} {t:Trm} (h:q.terms=[t]):(bindE st q).length=32:=by
 rw[bindE,h];exact trInts_len _ _ _
theorem bindF_len {l:List Eqn} {st:Bytes} (hs:st.length=32) (h: ∀q∈l,∃t,q.terms=[t]):(l.foldl bindE st).length=32:=by
 induction l generalizing st with
 |nil=>exact hs
 |cons q l ih=>
  obtain⟨t,ht⟩:=h q (by simp)
  exact ih (bindE_len st ht) fun q hq=>h q (List.mem_cons_of_mem _ hq)
theorem foldl_take {α β:Type} (f:β→α→β) (b:β) {l:List α} {i:Nat} (d:α) (h:i<l.length):(l.take (i+1)).foldl f b=f ((l.take i).foldl f b) (l.getD i d):=by
 rw[take_succ_getD d h,List.foldl_append];rfl
theorem CR_vrow2 {P:Program} [Tabs P] {Q:AX→AS→Prop} {nx:Nat} {bf:Option (List Nat)} {nn:Nat} {d:Option Nat} {ops:List SOp} {k:Nat} {s:AS} {tr:List (Nat×List Nat×List Nat)} {K:List Fr} {nm:Nat} {f:FuncId} {α:Type} {g:α→PV} {z n ver m:Nat} {l:List α} {gr:Bool} {el:Option TypeId} {x y r:PV}
  (he:EvP P f [x,y, .sl (l.map g)] r) (hrow:RowOK g z) (hr:r.flat=true) (hg:hget s.h n=some ⟨ver,rowF g l,gr,el⟩) (hm:m=l.length) (hK:RW P Q nx bf nn ops (k+1) (s.upd d (.v r) []) (trU bf k [n] [] tr) K):
  CR P Q nx bf nn nm (.v (.fn (.func f))) [.v x, .v y, .rs n ver 0 m z] d ops k s tr K:=by
 refine CR_view he ?_ hr ?_
 ·simp[mapO,view_rowF hrow hm hg];rfl
 ·have:[AV.v x,AV.v y,AV.rs n ver 0 m z].flatMap (viewN (hget s.h) 9)=[n]:=by simp[viewN_rowF hrow hm hg];rfl
  rw[this];exact hK
theorem Bind_ok {st:Bytes} (hst:st.length≤1000) {s:Stm} (hs:BdS s):EvP Tryz.prog 129 [.s st,s.pv] (.s (bindS st s)):=by
 obtain⟨⟨m,o,hg,lm,lo⟩,v0,nv,hv,ne,hq⟩:=hs;obtain⟨gs,vs,es⟩:=s;simp only at hg v0 nv hv ne hq;subst hg;obtain⟨w0,wr,hw⟩: ∃a b,vs=a::b:=by cases vs with
  |nil=>exact absurd rfl v0
  |cons a b=>exact⟨a,b,rfl⟩
 have hvl:vs.length=wr.length+1:=by rw[hw];rfl
 have hpos: ∀ _:True,(0:Int)<(vs.length:Int):=fun _=>by omega
 have g0:(vs.map vpv).getD 0 .fn0= .agg [.s w0]:=by rw[hw];rfl
 simp only[bindS,List.flatMap_cons,List.flatMap_nil,List.append_nil,Stm.pv,List.map_cons,List.map_nil,gpv];have n1:=tNats_ok st sGrps [m,o] (by omega) (by decide) (by simp) (by simp) (by intro s hs;simp at hs;rcases hs with rfl|rfl<;>omega)
 simp only[List.map_cons,List.map_nil]at n1;have n2:=tNats_ok (trNats st sGrps [m,o]) sBnds vs (by rw[trNats_len];decide) (by decide) v0 (by omega) (fun x hx=>by have:=hv x hx;omega)
 have l2:=trNats_len (trNats st sGrps [m,o]) sBnds vs;refine eW Tryz.call129 Tryz.func129 ?_;repeat' first|simp only[go_sem,seval]|(refine loop_unroll' ?_)|refine sB ?_|(first|apply pX|apply bX)<;>intro hc|refine⟨oD,?_⟩|exact oD|fail
 repeat' first|simp only[go_sem,seval,g0,hpos trivial]|refine sB ?_|(first|apply pX|apply bX)<;>intro hc|refine⟨oD,?_⟩|exact oD|fail
 have hro:[AV.v (PV.s w0)]=rowF PV.s (vs.take 1):=by rw[hw];rfl
 rw[hro];refine loop_run (α:=Nat) (fun j=>vs.length-j) (fun j=>⟨[(0, .v (.s st)),(3, .p 1000 0 0),(5, .rs 1019 0 0 2 1),(6, .rs 1037 j 0 (1+j) 1),(31, .v (.sl (vs.map vpv))),(32,E' vs.length),(33,E' (j+1))],[(1000,⟨0,[.v (.sl [.agg [.s m, .s o]]), .v (.sl (vs.map vpv)), .v (.sl (es.map Eqn.pv))],false,none⟩),(1019,⟨0,[.v (.s m), .v (.s o)],true,some 22⟩),(1037,⟨j,rowF PV.s (vs.take (j+1)),true,some 22⟩)],1041⟩) (fun j=>j+1≤vs.length) 0 (fun _=>Nat.le_of_ble_eq_true rfl) (by omega) ?_ ?_
 ·(refine AS.Le.of (by first|decide|omega) ?_ ?_<;>simp[LeT,LeH,tget,hget,AV.bd,AV.bd.bdL,u8,bd_cellsOf,bcells_bd,icells_bd])
  all_goals exact fun c hc=>bd_row hc
 ·intro j hj R hR;have hlr:(vs.take (j+1)).length=1+j:=by rw[List.length_take];omega
  have q0:(rowF PV.s (vs.take (j+1))).length=1+j:=by rw[rowF_len RowOK.s,hlr,Nat.mul_one]
  have q1:List.take (1+j) (rowF PV.s (vs.take (j+1)))=rowF PV.s (vs.take (j+1)):=List.take_of_length_le (by omega)
  by_cases hjt:j+1<vs.length
  ·have e2:=getD_map vpv vs ([]:Bytes) hjt;have hgo:=hR (j+1) (by omega) (by omega)
   rw[take_succ_getD ([]:Bytes) hjt,rowF_snoc]at hgo;generalize vs.getD (j+1) []=y at e2 hgo;have e2:(vs.map vpv).getD (j+1) .fn0= .agg [.s y]:=e2;have e3: ∀ _:True,((j:Int)+1).toNat=j+1:=fun _=>by omega
   clear hR hlr n1 n2;repeat' first|simp only[go_sem,seval,q0,q1,e2,e3 trivial]|refine sB ?_|(first|apply pX|apply bX)<;>intro hc|refine⟨oD,?_⟩|exact oD|fail
   refine hgo _ ?_
   (refine AS.Le.of (by first|decide|omega) ?_ ?_<;>simp[LeT,LeH,tget,hget,AV.bd,AV.bd.bdL,u8,bd_cellsOf,bcells_bd,icells_bd])
   all_goals first|omega|exact⟨rfl,fun c hc=>by rcases hc with hc|⟨a,ha,rfl⟩;exact bd_row hc;rfl⟩|skip
  ·have hj2:j+1=vs.length:=by omega
   rw[hj2,List.take_length]at hlr q0 q1⊢;clear hR hpos g0 hro;repeat' first|simp only[go_sem,seval,q0,q1]|refine cV n1 ?_|(refine CR_vrow2 (l:=vs) (g:=PV.s) (ver:=j) (gr:=true) (el:=some 22) n2 RowOK.s rfl (by simp[hget]) hlr.symm ?_)|refine sB ?_|(first|apply pX|apply bX)<;>intro hc|refine⟨oD,?_⟩|exact oD|fail
   generalize trNats (trNats st sGrps [m,o]) sBnds vs=s0 at l2⊢;clear n1 n2;refine loop_run (α:=Nat) (fun i=>es.length-i) (fun i=>⟨[(0, .v (.s ((es.take i).foldl bindE s0))),(50, .v (.sl (es.map Eqn.pv))),(51,E' es.length),(52,E' i)],[],_⟩) (fun i=>i≤es.length) 0 (fun _=>Nat.le_refl _) (Nat.zero_le _) ?_ ?_
   ·(refine AS.Le.of (by first|decide|omega) ?_ ?_<;>simp[LeT,LeH,tget,hget,AV.bd,AV.bd.bdL,u8,bd_cellsOf,bcells_bd,icells_bd])
    all_goals rfl
   ·intro i hi R hR
    by_cases hit:i<es.length
    ·have e2:=getD_map Eqn.pv es d0Q hit;have hgo:=hR (i+1) (by omega) (by omega)
     rw[foldl_take bindE s0 d0Q hit]at hgo;obtain⟨g1,g2,g3,t,ht,v1,v2,lb,la⟩:=hq _ (mem_getD d0Q hit);have hX:=bindF_len (l:=es.take i) (st:=s0) l2 fun q hq'=>by
      obtain⟨-,-,-,t,ht,-⟩:=hq q (List.mem_of_mem_take hq');exact⟨t,ht⟩
     generalize (es.take i).foldl bindE s0=X at hgo hX⊢;generalize es.getD i d0Q=q at*;obtain⟨grp,tgt,ts⟩:=q;obtain⟨base,vr,ng,ab⟩:=t;simp only at g1 g2 g3 ht v1 v2 lb la;subst ht;obtain⟨n,rfl⟩: ∃n:Nat,grp=(n:Int):=⟨grp.toNat,by omega⟩
     obtain⟨v,rfl⟩: ∃v:Nat,vr=(v:Int):=⟨vr.toNat,by omega⟩
     have e2:(es.map Eqn.pv).getD i .fn0= .agg [.i .i64 (n:Int), .s tgt, .sl [.agg [.s base, .i .i64 (v:Int), .b ng, .s ab]]]:=e2;have hgo: _:=hgo;simp only[bindE,bindT,List.foldl_cons,List.foldl_nil,Int.toNat_natCast]at hgo;have ln:=decN_len n;have lv:=decN_len v;have c1:=Itoa_ok n (by omega)
     have c2:=tAdd_ok X sEqn (decN n) (by omega) (by decide) (by omega)
     have c3:=tNats_ok (trAdd X sEqn (decN n)) sTgt [tgt] (by rw[trAdd_len];decide) (by decide) (by simp) (by simp) (by simp;omega)
     have c4:=Itoa_ok v (by omega)
     have c5:=tAdd_ok (trNats (trAdd X sEqn (decN n)) sTgt [tgt]) sVar (decN v) (by rw[trNats_len];decide) (by decide) (by omega)
     have c6:=tNats_ok (trAdd (trNats (trAdd X sEqn (decN n)) sTgt [tgt]) sVar (decN v)) sBase [base] (by rw[trAdd_len];decide) (by decide) (by simp) (by simp) (by simp;omega)
     have c7:=tInts_ok (trNats (trAdd (trNats (trAdd X sEqn (decN n)) sTgt [tgt]) sVar (decN v)) sBase [base]) sCoef ng ab (by rw[trNats_len];decide) (by decide) (by omega)
     simp only[List.map_cons,List.map_nil]at c3 c6;clear hR hq;repeat' first|simp only[go_sem,seval,e2]|refine cP c1 ?_|refine cP c2 ?_|refine cP c3 ?_|refine cP c4 ?_|refine cP c5 ?_|refine cP c6 ?_|refine cP c7 ?_|(refine loop_unroll' ?_)|refine sB ?_|(first|apply pX|apply bX)<;>intro hc|refine⟨oD,?_⟩|exact oD|fail
     refine hgo _ ?_
     (refine AS.Le.of (by first|decide|omega) ?_ ?_<;>simp[LeT,LeH,tget,hget,AV.bd,AV.bd.bdL,u8,bd_cellsOf,bcells_bd,icells_bd])
     all_goals first|omega|skip
    ·have h:i=es.length:=by omega
     rw[h,List.take_length];repeat' first|simp only[go_sem,seval]|refine sB ?_|(first|apply pX|apply bX)<;>intro hc|refine⟨oD,?_⟩|exact oD|fail


end Go.Proofs.YtmledjfbgjnknaaGreatDoor
namespace Go.Proofs.YtmledjfbgjnknaaGreatDoor
open Go Go.Dom Go.Num
set_option maxRecDepth 100000
set_option maxHeartbeats 16000000


theorem pn_ok (x:Int):EvP Tryz.prog 48 [.i .u8 x] (.s [UInt8.ofNat x.toNat]):=by
 refine eW Tryz.call48 Tryz.func48 ?_;repeat' first|simp only[go_sem,seval]|refine sB ?_|(first|apply pX|apply bX)<;>intro hc|refine⟨oD,?_⟩|exact oD|fail
theorem Params_ok:EvP Tryz.prog 16 [] P0.pv:=by
 refine eW Tryz.call16 Tryz.func16 ?_;repeat' first|simp only[go_sem,seval]|refine cP (pn_ok _) ?_|refine sB ?_|(first|apply pX|apply bX)<;>intro hc|refine⟨oD,?_⟩|exact oD|fail
 rfl
def K2:Key:=⟨bank,[77],[],[64],[4],[[23],[1]],[64],[60]⟩
theorem check2_ok (k:Key) (hk:keyE 0 k=0) (lm:k.m.length≤8) (ln:k.name.length≤60) (lr:k.r.length≤20):EvP Tryz.prog 19 [P0.pv,k.pv] (E 0):=by
 have h:=keyCheck_ok P0 k 0 P0_ok lm ln lr
 rwa[hk]at h
theorem check_K1:EvP Tryz.prog 19 [P0.pv,K1.pv] (E 0):=check2_ok K1 (by decide+kernel) (by decide) (by decide) (by decide)
theorem check_K2:EvP Tryz.prog 19 [P0.pv,K2.pv] (E 0):=check2_ok K2 (by decide+kernel) (by decide) (by decide) (by decide)
theorem fits_K1:EvP Tryz.prog 18 [P0.pv,K1.pv,G [7] [11]] (E 0):=by
 have h:=Fits_ok P0 K1 [7] [11] 0 check_K1 (by decide) (by decide)
 rwa[show fitsE 0 K1 [7] [11]=0 by decide+kernel]at h
theorem fits_K2:EvP Tryz.prog 18 [P0.pv,K2.pv,G [7] [11]] (E 13):=by
 have h:=Fits_ok P0 K2 [7] [11] 0 check_K2 (by decide) (by decide)
 rwa[show fitsE 0 K2 [7] [11]=13 by decide+kernel]at h
theorem awake_ok:EvP Tryz.prog 8 [] (.b true):=by
 have h1:=Params_ok;have h2:=Make_ok;have h3:=EqualN_ok [[3],[2],[7],[5],[]] [[3],[2],[7],[5],[]] (by decide) (by decide)
 have h4:=EqualN_ok [[23],[1]] [[23],[1]] (by decide) (by decide)
 rw[decide_eq_true rfl]at h3 h4;have h5:=fits_K1;have h6:=check_K2;have h7:=fits_K2;simp only[List.map_cons,List.map_nil]at h3 h4;have e1:K1.pv= .agg [.s bank, .s [77], .s [], .s [64], .s [4], .sl [.s [23], .s [1]], .s [16], .s [60]]:=rfl;have e2:K2.pv= .agg [.s bank, .s [77], .s [], .s [64], .s [4], .sl [.s [23], .s [1]], .s [64], .s [60]]:=rfl;have e3:T vs0 [] 0= .agg [.sl [.s [2], .s [3], .s [2], .s [7], .s [5], .s []], .s [], .i .i64 0]:=rfl;have e4:bank=[98,97,110,107]:=rfl;rw[e1,e3]at h2;rw[e1]at h5;rw[e2]at h6 h7;rw[e4]at h2 h5 h6 h7;generalize P0.pv=pp at*;refine eW Tryz.call8 Tryz.func8 ?_;repeat' first|simp only[go_sem,seval,beq_self_eq_true]|refine cP h1 ?_|refine cP h2 ?_|refine cP h3 ?_|refine cP h4 ?_|refine cP h5 ?_|refine cP h6 ?_|refine cP h7 ?_|refine sB ?_|(first|apply pX|apply bX)<;>intro hc|refine⟨oD,?_⟩|exact oD|fail
 all_goals skip
def Key.rb (k:Key):List Bytes:=k.z::k.u::k.h::k.r
def Key.l (k:Key):List Bytes:=k.m::k.o::k.s::k.rb
theorem gE_nil (m:Bytes):gE m []=pwE m:=by
 unfold gE pwE;have hv0:validN []=true:=rfl
 cases validN m<;>simp[hv0]
end Go.Proofs.YtmledjfbgjnknaaGreatDoor
