/-
  Part of the proof, part 41. Own work.
-/
import Derived.Test.YtmledjfbgjnknaaGreatDoorM40
set_option linter.all false
namespace Go.Proofs.YtmledjfbgjnknaaGreatDoor
open Go Go.Dom Go.Num
set_option maxRecDepth 100000
theorem seek_ok {f:Nat→Bytes} {n:Nat} {x:Bytes}: ∀{k a:Nat},seek f n a k=some x→num x<n∧ ∃b,x=f b:=by
 intro k
 induction k with
 |zero=>intro a h;cases h
 |succ k ih=>
  intro a h;rw[seek]at h
  split at h
  ·rename_i hlt;injection h with h
   subst h;exact⟨hlt,a,rfl⟩
  ·exact ih h
theorem drawO_ok {vs:List Bytes} {sd:Bytes} {i:Nat} {n x:Bytes} (hv:vs.all validN=true) (hn:validN n=true) (hl:vs.length<1000000) (hi:i≤2147483647) (h:drawO vs sd i n= .ok x):validN x=true∧num x<num n∧i+1≤2147483647:=by
 unfold drawO at h
 split at h
 ·rename_i hiv
  split at h
  ·cases h
  ·rename_i hlt;injection h with h
   subst h;exact⟨List.all_eq_true.1 hv _ (getD_mem hiv),by omega,by omega⟩
 ·split at h
  ·cases h
  ·rename_i hs;have hi2:i≠2147483647:=fun e=>hs (.inr e)
   split at h
   ·rename_i y hy;injection h with h
    subst h;obtain⟨h1,b,hb⟩:=seek_ok hy;exact⟨by rw[hb];exact attB_valid sd i b (blenV_le hn),h1,by omega⟩
   ·cases h
theorem signO_ok {vs:List Bytes} {sd:Bytes} {i M:Nat} {z:Int} (hv:vs.all validN=true) (h1:1≤M) (h2:2*M<LIM) (hl:vs.length<1000000) (hi:i≤2147483647) (h:signO vs sd i M= .ok z):z.natAbs<M∧i+1≤2147483647:=by
 unfold signO at h
 split at h
 ·cases h
 ·rename_i x hx;obtain⟨-,h3,h4⟩:=drawO_ok hv (vB (by omega)) hl hi hx
  rw[num_bts]at h3;injection h with h
  subst h;exact⟨by omega,h4⟩
theorem maskG_ok {vs:List Bytes} {sd:Bytes} (hv:vs.all validN=true) (hl:vs.length<1000000): ∀(Ms:List Nat) (i:Nat) (acc l:List Int),(∀M∈Ms,1≤M∧2*M<LIM)→i≤2147483647→maskG vs sd Ms i acc= .ok l→ ∃r,l=acc++r∧r.length=Ms.length∧(∀j,j<Ms.length→(r.getD j 0).natAbs<Ms.getD j 0)∧i+Ms.length≤2147483647:=by
 intro Ms
 induction Ms with
 |nil=>intro i acc l _ hi h;injection h with h;exact⟨[],by simp[h],rfl,(fun j hj=>(Nat.not_lt_zero _ hj).elim),hi⟩
 |cons M Ms ih=>
  intro i acc l hM hi h;rw[maskG]at h
  split at h
  ·cases h
  ·rename_i z hz;obtain⟨h1,h2⟩:=hM M (.head _);obtain⟨h3,h4⟩:=signO_ok hv h1 h2 hl hi hz;obtain⟨r,h5,h6,h7,h8⟩:=ih _ _ _ (fun M' hm=>hM M' (.tail _ hm)) h4 h
   refine⟨z::r,by rw[h5];simp,by simp[h6],?_,by simp;omega⟩
   intro j hj
   cases j with
   |zero=>exact h3
   |succ j=>exact h7 j (by simpa using hj)
theorem drawO_err {vs:List Bytes} {sd:Bytes} {i:Nat} {n:Bytes} {e:Int} (h:drawO vs sd i n= .error e):e=2∨e=14:=by
 unfold drawO at h
 split at h
 ·split at h
  ·injection h with h;exact .inl h.symm
  ·cases h
 ·split at h
  ·injection h with h;exact .inr h.symm
  ·split at h
   ·cases h
   ·injection h with h;exact .inr h.symm
theorem signO_err {vs:List Bytes} {sd:Bytes} {i M:Nat} {e:Int} (h:signO vs sd i M= .error e):e=2∨e=14:=by
 unfold signO at h
 split at h
 ·rename_i e' he;injection h with h
  subst h;exact drawO_err he
 ·cases h
theorem maskG_err {vs:List Bytes} {sd:Bytes} {e:Int}: ∀{Ms:List Nat} {i:Nat} {acc:List Int},maskG vs sd Ms i acc= .error e→e=2∨e=14:=by
 intro Ms
 induction Ms with
 |nil=>intro i acc h;cases h
 |cons M Ms ih=>
  intro i acc h;rw[maskG]at h
  split at h
  ·rename_i e' he;injection h with h
   subst h;exact signO_err he
  ·exact ih h
theorem izok_ipz {z:Int} (h:z.natAbs<LIM):izok (ipz z)=true:=zval h
theorem ipz_nat {x:Bytes} (h:validN x=true):ipz (num x:Int)=(false,x):=by
 have e:bts (num x)=x:=by have:=N_of h;injection this
 simp[ipz,zs,zb,e]
end Go.Proofs.YtmledjfbgjnknaaGreatDoor
namespace Go.Proofs.YtmledjfbgjnknaaGreatDoor
open Go Go.Dom Go.Num
set_option maxRecDepth 100000
set_option maxHeartbeats 16000000
def signP (vs:List Bytes) (sd:Bytes) (i:Nat):Except Int Int→PV
 | .ok z=> .tup [Z z,T vs sd (i+1:Nat),E 0]
 | .error e=> .tup [.agg [.b false, .s []],T [] [] 0,E e]
theorem Signed_ok {vs:List Bytes} {sd:Bytes} {i M:Nat} (hv:vs.all validN=true) (hi:i≤2147483647) (hl:vs.length<1000000) (hsd:sd.length<1000000) (h1:1≤M) (h2:3*M<LIM):EvP Tryz.prog 231 [T vs sd i,N M] (signP vs sd i (signO vs sd i M)):=by
 have hM:bts M≠[]:=by rw[ne_eq,bts_nil];omega
 have hN:validN (bts (2*M-1))=true:=vB (by omega)
 have hr:=ready_ok vs sd i (bts M) (by omega)
 rw[readyG hv (vB (by omega)) hM hi]at hr
 have ha:=addN (a:=M) (b:=M) (by omega)
 have hs:=subN (a:=M) (b:=1) (by omega) (by omega)
 have ho:=subN (a:=M+M) (b:=1) (by omega) (by omega)
 have hd:=drawG_ok (sd:=sd) hv hN (by rw[num_bts];omega) hi hl hsd
 rw[←one_eq]at hs ho;rw[show M+M-1=2*M-1 by omega]at ho
 unfold signO;generalize hD:drawO vs sd i (bts (2*M-1))=r at*
 cases r with
 |error e=>
  unfold drawP at hd;unfold signP;rcases drawO_err hD with rfl|rfl
  ·refine eW Tryz.call231 Tryz.func231 ?_;repeat' first|simp only[go_sem,seval]|refine cP hr ?_|refine cP ha ?_|refine cP hs ?_|refine cP ho ?_|refine cP hd ?_|refine sB ?_|(first|apply pX|apply bX)<;>intro hc|refine⟨oD,?_⟩|exact oD|fail
   all_goals rfl
  ·refine eW Tryz.call231 Tryz.func231 ?_;repeat' first|simp only[go_sem,seval]|refine cP hr ?_|refine cP ha ?_|refine cP hs ?_|refine cP ho ?_|refine cP hd ?_|refine sB ?_|(first|apply pX|apply bX)<;>intro hc|refine⟨oD,?_⟩|exact oD|fail
   all_goals rfl
 |ok x=>
  obtain⟨vx,hx,-⟩:=drawO_ok hv hN hl hi hD;rw[num_bts]at hx;have hz:=iSubL (x:=(num x:Int)) (y:=((M-1:Nat):Int)) (by omega)
  have e1:Z (num x:Int)= .agg [.b false, .s x]:=by rw[←ipv_ipz,ipz_nat vx];rfl
  have e2:Z ((M-1:Nat):Int)= .agg [.b false,N (M-1)]:=rfl;rw[e1,e2]at hz;unfold drawP at hd;unfold signP;simp only;refine eW Tryz.call231 Tryz.func231 ?_;repeat' first|simp only[go_sem,seval]|refine cP hr ?_|refine cP ha ?_|refine cP hs ?_|refine cP ho ?_|refine cP hd ?_|refine cP hz ?_|refine sB ?_|(first|apply pX|apply bX)<;>intro hc|refine⟨oD,?_⟩|exact oD|fail
  all_goals rfl
theorem all_bad {n i:Nat} {p:Nat→Bool} (hi:i<n) (h:p i=false):(List.range n).all p=false:=by
 rw[Bool.eq_false_iff];intro g;have:=List.all_eq_true.1 g i (List.mem_range.2 hi);rw[h]at this;cases this
theorem all_good {n:Nat} {p:Nat→Bool} (h: ∀i,i<n→p i=true):(List.range n).all p=true:=by
 rw[List.all_eq_true];intro i hi;exact h i (List.mem_range.1 hi)
def inW (vs:List Bytes) (w:List (Bool×Bytes)):Bool:=(List.range vs.length).all fun i=>decide (num (w.getD i d0I).2<num (vs.getD i []))
noncomputable def holdB (s:Stm) (w:List (Bool×Bytes)):Bool:=decide (imgL s w=s.eqs.map (·.tgt))
theorem linRange_ok {s:Stm} (hs:StOK s) {w:List (Bool×Bytes)} (hwl:w.length=s.vars.length) (hw: ∀x∈w,izok x=true):EvP Tryz.prog 224 [s.pv, .sl (w.map ipv)] (.b (inW s.vars w)):=by
 have hv:=hs.v;have nv:=hs.nv;obtain⟨gs,vs,es⟩:=s;simp only at hv hwl nv;have l2:(vs.map vpv).length=vs.length:=List.length_map ..;have l5:(w.map ipv).length=vs.length:=by rw[List.length_map];exact hwl
 unfold Stm.pv;simp only;refine eW Tryz.call224 Tryz.func224 ?_;repeat' first|simp only[go_sem,seval,l2]|refine sB ?_|(first|apply pX|apply bX)<;>intro hc|refine⟨oD,?_⟩|exact oD|fail
 refine loop_run (α:=Nat) (fun i=>vs.length-i) (fun i=>⟨[(1, .v (.sl (w.map ipv))),(2, .p 1000 0 0),(9, .v (.sl (vs.map vpv))),(10,E' vs.length),(11,E' i)],[(1000,⟨0,[.v (.sl (gs.map gpv)), .v (.sl (vs.map vpv)), .v (.sl (es.map Eqn.pv))],false,none⟩)],_⟩) (fun i=>i≤vs.length∧ ∀j,j<i→num (w.getD j d0I).2<num (vs.getD j [])) 0 (fun _=>Nat.le_refl _) ⟨Nat.zero_le _,fun j hj=>by omega⟩ ?_ ?_
 ·exact lE
 ·rintro i ⟨hi,hall⟩ R hR
  by_cases hlt:i<vs.length
  ·have e1:=getD_map vpv vs [] hlt;have e2:=getD_map ipv w d0I (i:=i) (by omega)
   obtain⟨b1,b2,-⟩:=hv _ (mem_getD [] hlt);have kw:=hw _ (mem_getD d0I (show i<w.length by omega))
   have hgo:=fun h=>hR (i+1) ⟨by omega,h⟩ (by omega)
   have hbad:=fun h: ¬num (w.getD i d0I).2<num (vs.getD i [])=>all_bad (p:=fun i=>decide (num (w.getD i d0I).2<num (vs.getD i []))) hlt (decide_eq_false h)
   have hnx:num (w.getD i d0I).2<num (vs.getD i [])→ ∀j,j<i+1→num (w.getD j d0I).2<num (vs.getD j []):=fun h j hj=>by
    by_cases hji:j<i
    ·exact hall j hji
    ·obtain rfl:j=i:=by omega
     exact h
   rw[←inW]at hbad;clear hR hall;generalize vs.getD i []=b at*;obtain⟨x,hx⟩: ∃x,x=w.getD i d0I:=⟨_,rfl⟩;rw[←hx]at e2 kw hbad hnx;clear hx;obtain⟨n,a⟩:=x;simp only[izok,Bool.and_eq_true]at kw hbad hnx;have hc:=cmpVV kw.1 b1;have hd: ∀ _:True,decide (cmpN (num a) (num b)≥0)= !decide (num a<num b):=fun _=>geD _ _
   have hbb:(b==[])=false:=by simpa using b2
   simp only[vpv]at e1;simp only[ipv]at e2;generalize cmpN (num a) (num b)=cm at*
   by_cases hlt2:num a<num b
   ·have hgo:=hgo (hnx hlt2);rw[decide_eq_true hlt2]at hd;repeat' first|simp only[go_sem,seval,l2,l5,e1,e2,hbb,hd trivial,Bool.not_true]|refine cP hc ?_|refine sB ?_|(first|apply pX|apply bX)<;>intro hc|refine⟨oD,?_⟩|exact oD|fail
    refine hgo _ ?_;exact lE
   ·rw[hbad hlt2];rw[decide_eq_false hlt2]at hd;repeat' first|simp only[go_sem,seval,l2,l5,e1,e2,hbb,hd trivial,Bool.not_false]|refine cP hc ?_|refine sB ?_|(first|apply pX|apply bX)<;>intro hc|refine⟨oD,?_⟩|exact oD|fail
  ·obtain rfl:i=vs.length:=by omega
   have hg:inW vs w=true:=all_good fun j hj=>decide_eq_true (hall j hj)
   rw[hg];repeat' first|simp only[go_sem,seval]|refine sB ?_|(first|apply pX|apply bX)<;>intro hc|refine⟨oD,?_⟩|exact oD|fail
theorem eq_tgts {L:List Bytes} {es:List Eqn} (hl:L.length=es.length) (h: ∀j,j<es.length→L.getD j []=(es.getD j d0Q).tgt):L=es.map (·.tgt):=by
 refine List.ext_getElem (by simpa using hl) fun j h1 h2=> ?_
 have h2:j<es.length:=by simpa using h2
 have:=h j h2;rw[List.getD_eq_getElem?_getD,List.getD_eq_getElem?_getD,List.getElem?_eq_getElem h1,List.getElem?_eq_getElem h2]at this;simpa using this
theorem linHolds_ok {s:Stm} (hs:StOK s) (h0:s.eqs≠[]) (ho:OneS s) {w:List (Bool×Bytes)} (hwl:w.length=s.vars.length) (hw: ∀x∈w,izok x=true):EvP Tryz.prog 118 [s.pv, .sl (w.map ipv)] (.tup [.b (inW s.vars w&&holdB s w),E 0]):=by
 have nv:=hs.nv;have ne:=hs.ne;have hr:=lready_ok hs (w:=w) (by omega)
 rw[List.all_eq_true.2 hw,if_neg (by simp),if_neg (by simp[hwl])]at hr
 have hi:=linRange_ok hs hwl hw;have hm:=images_ok hs h0 ho hwl hw;have hL:=imgL_len s w;unfold holdB;generalize imgL s w=L at*;obtain⟨gs,vs,es⟩:=s;simp only[Stm.pv]at hr hi hm hL⊢;have l3:(es.map Eqn.pv).length=es.length:=List.length_map ..;have l4:(L.map PV.s).length=es.length:=by rw[List.length_map];exact hL
 simp only at ne;clear hs ho hw hwl;generalize inW vs w=b at*;cases b
 ·refine eW Tryz.call118 Tryz.func118 ?_;repeat' first|simp only[go_sem,seval]|refine cP hr ?_|refine cP hi ?_|refine sB ?_|(first|apply pX|apply bX)<;>intro hc|refine⟨oD,?_⟩|exact oD|fail
 refine eW Tryz.call118 Tryz.func118 ?_;repeat' first|simp only[go_sem,seval,l3]|refine cP hr ?_|refine cP hi ?_|refine cP hm ?_|refine sB ?_|(first|apply pX|apply bX)<;>intro hc|refine⟨oD,?_⟩|exact oD|fail
 refine loop_run (α:=Nat) (fun i=>es.length-i) (fun i=>⟨[(2, .p 1000 0 0),(7, .v (.sl (L.map .s))),(31, .v (.sl (es.map Eqn.pv))),(32,E' es.length),(33,E' i)],[(1000,⟨0,[.v (.sl (gs.map gpv)), .v (.sl (vs.map vpv)), .v (.sl (es.map Eqn.pv))],false,none⟩)],_⟩) (fun i=>i≤es.length∧ ∀j,j<i→L.getD j []=(es.getD j d0Q).tgt) 0 (fun _=>Nat.le_refl _) ⟨Nat.zero_le _,fun j hj=>by omega⟩ ?_ ?_
 ·exact lE
 ·rintro i ⟨hi,hall⟩ R hR
  by_cases hlt:i<es.length
  ·have e1:=getD_map Eqn.pv es d0Q hlt;have e2:=getD_map PV.s L [] (i:=i) (by omega)
   have hgo:=fun h=>hR (i+1) ⟨by omega,h⟩ (by omega)
   have hnx:L.getD i []=(es.getD i d0Q).tgt→ ∀j,j<i+1→L.getD j []=(es.getD j d0Q).tgt:=fun h j hj=>by
    by_cases hji:j<i
    ·exact hall j hji
    ·obtain rfl:j=i:=by omega
     exact h
   have hbad: ¬L.getD i []=(es.getD i d0Q).tgt→decide (L=es.map (·.tgt))=false:=fun h=>decide_eq_false fun g=>h (by rw[g];simp[List.getD_eq_getElem?_getD,hlt])
   clear hR hall;generalize es.getD i d0Q=q at*;generalize L.getD i []=x at*;obtain⟨g,t,ts⟩:=q;simp only[Eqn.pv]at e1 hbad hnx
   by_cases hxt:x=t
   ·have hgo:=hgo (hnx hxt);have e3:(x==t)=true:=by simpa using hxt
    repeat' first|simp only[go_sem,seval,l3,l4,e1,e2,e3]|refine sB ?_|(first|apply pX|apply bX)<;>intro hc|refine⟨oD,?_⟩|exact oD|fail
    refine hgo _ ?_;exact lE
   ·have e3:(x==t)=false:=by simpa using hxt
    rw[hbad hxt];repeat' first|simp only[go_sem,seval,l3,l4,e1,e2,e3]|refine sB ?_|(first|apply pX|apply bX)<;>intro hc|refine⟨oD,?_⟩|exact oD|fail
  ·obtain rfl:i=es.length:=by omega
   rw[decide_eq_true (eq_tgts hL hall)];repeat' first|simp only[go_sem,seval]|refine sB ?_|(first|apply pX|apply bX)<;>intro hc|refine⟨oD,?_⟩|exact oD|fail
theorem zRow:RowOK Zp 2:=⟨fun _=>rfl,fun x y hy=>by simp[Zp,ipv,ipz,PV.cells]at hy;rcases hy with rfl|rfl<;>rfl,fun h=>by omega,fun _ x=>rfl⟩
def maskP (vs:List Bytes) (sd:Bytes) (j:Nat):Except Int (List Int)→PV
 | .ok ms=> .tup [.sl (ms.map Zp),T vs sd j,E 0]
 | .error e=> .tup [.sl [],T [] [] 0,E e]
theorem limM_ok {c sl b:Bytes} (hr:RuOK c sl) (vb:validN b=true) (hb:b≠[]) (lb:b.length≤16):1≤limM c sl b∧3*limM c sl b<LIM:=by
 have h1:=hr.c2;have h2:=hr.s2;have h3:=num_ne vb hb;unfold limM;refine⟨Nat.mul_pos (Nat.mul_pos (by omega) (by omega)) (by omega),?_⟩
 have g1:num sl<256^8:=Nat.lt_of_lt_of_le (num_lt sl) (Nat.pow_le_pow_right (by decide) hr.ls)
 have g2:num c<256^8:=Nat.lt_of_lt_of_le (num_lt c) (Nat.pow_le_pow_right (by decide) hr.lc)
 have g3:num b<256^16:=Nat.lt_of_lt_of_le (num_lt b) (Nat.pow_le_pow_right (by decide) lb)
 have g4:num sl*num c*num b≤256^8*256^8*256^16:=Nat.mul_le_mul (Nat.mul_le_mul (Nat.le_of_lt g1) (Nat.le_of_lt g2)) (Nat.le_of_lt g3);exact Nat.lt_of_le_of_lt (Nat.mul_le_mul_left 3 g4) (by unfold LIM;decide+kernel)
theorem zs_snoc (ms:List Int) (z:Int):rowF Zp (ms++[z])=rowF Zp ms++[.v (.b (zs z)), .v (.s (zb z))]:=by rw[rowF_snoc];rfl
theorem draw16_ok {c sl:Bytes} (hr:RuOK c sl) {s:Stm} (hs:StOK s) (h0:s.vars≠[]) {vs:List Bytes} {sd:Bytes} {i:Nat} (hv:vs.all validN=true) (hi:i≤2147483647) (hl:vs.length<1000000) (hsd:sd.length<1000000):
  EvP Tryz.prog 121 [s.pv, .sl (s.vars.map (limP c sl)),T vs sd i] (maskP vs sd (i+s.vars.length) (maskG vs sd (s.vars.map (limM c sl)) i [])):=by
 have hb:=hs.v;have nv:=hs.nv;obtain⟨gs,us,es⟩:=s;simp only at hb nv h0;clear hs;have hpos:0<us.length:=List.length_pos_iff.2 h0;have l2:(us.map vpv).length=us.length:=List.length_map ..;have l3:(us.map (limP c sl)).length=us.length:=List.length_map ..;obtain⟨R0,hR0⟩: ∃R0,R0=maskG vs sd ((us.drop 0).map (limM c sl)) i []:=⟨_,rfl⟩;simp only;rw[show us.map (limM c sl)=(us.drop 0).map (limM c sl)from rfl,←hR0]
 unfold Stm.pv;simp only;refine eW Tryz.call121 Tryz.func121 ?_;repeat' first|simp only[go_sem,seval,l2]|refine sB ?_|(first|apply pX|apply bX)<;>intro hc|refine⟨oD,?_⟩|exact oD|fail
 refine loop_unroll' ?_;have e1:=getD_map vpv us [] hpos;have e2:=getD_map (limP c sl) us [] hpos;obtain⟨k1,k2,k3⟩:=hb _ (mem_getD [] hpos);have hk:=skind_ok k2;have hm:=limM_ok hr k1 k2 k3;have hg:=fun hi=>Signed_ok (vs:=vs) (sd:=sd) (i:=i) hv hi hl hsd hm.1 hm.2
 rw[drop_getD [] hpos,List.map_cons,maskG]at hR0;have hm1:=hm.1;have hm2:2*limM c sl (us.getD 0 [])<LIM:=by have:=hm.2;omega
 clear hm k1 k2 k3;generalize us.getD 0 []=u at*;simp only[vpv]at e1 hk;simp only[limP]at e2;generalize limM c sl u=M at*;generalize limR c sl u=Rr at*;have hg:=hg hi
 cases hsg:signO vs sd i M with
 |error e=>
  rw[hsg]at hg hR0;simp only[signP]at hg hR0;have he:(e !=0)=true:=by rcases signO_err hsg with rfl|rfl<;>rfl
  subst hR0;repeat' first|simp only[go_sem,seval,l2,l3,e1,e2,he]|refine cP hk ?_|refine cP hg ?_|refine sB ?_|(first|apply pX|apply bX)<;>intro hc|refine⟨oD,?_⟩|exact oD|fail
  all_goals rfl
 |ok z=>
  have hsi:i+(0+1)≤2147483647:=(signO_ok hv hm1 hm2 hl hi hsg).2;rw[hsg]at hg hR0;simp only[signP]at hg hR0;repeat' first|simp only[go_sem,seval,l2,l3,e1,e2]|refine cP hk ?_|refine cP hg ?_|refine sB ?_|(first|apply pX|apply bX)<;>intro hc|refine⟨oD,?_⟩|exact oD|fail
  clear e1 e2 hk hg;refine loop_run (α:=Nat×List Int) (fun p=>us.length-(p.1+1)) (fun p=>⟨[(1, .v (.sl (us.map (limP c sl)))),(3, .p 1000 0 0),(5, .p 1001 0 0),(7, .p 1003 0 0),(9, .rs 1041 p.1 0 (p.1+1) 2),(15, .v (.sl (us.map vpv))),(16,E' us.length),(17,E' (p.1+1))],[(1000,⟨0,[.v (.sl (gs.map gpv)), .v (.sl (us.map vpv)), .v (.sl (es.map Eqn.pv))],false,none⟩),(1001,⟨0,[.v (.sl (vs.map .s)), .v (.s sd), .v (.i .i64 ((i+(p.1+1):Nat):Int))],false,none⟩),(1003,⟨0,[.sn, .v (.s []), .v (.i .i64 0)],false,some 35⟩),(1041,⟨p.1,rowF Zp p.2,true,some 53⟩)],1045⟩) (fun p=>p.1+1≤us.length∧p.2.length=p.1+1∧i+(p.1+1)≤2147483647∧R0=maskG vs sd ((us.drop (p.1+1)).map (limM c sl)) (i+(p.1+1)) p.2) (0,[z]) (fun _=>Nat.le_of_ble_eq_true rfl) ⟨hpos,rfl,hsi,hR0⟩ ?_ ?_
  ·(refine AS.Le.of (by first|decide|omega) ?_ ?_<;>simp[LeT,LeH,tget,hget,AV.bd,AV.bd.bdL,u8,bd_cellsOf,bcells_bd,icells_bd])
   all_goals exact⟨rfl,fun c hc=>bd_row hc⟩
  ·rintro⟨j,ms⟩ ⟨hj,hlm,hij,hR0⟩ R hR;simp only at hj hlm hij hR0;have q1:=rowF_len zRow ms;have q2:=rowF_take zRow ms;rw[hlm]at q1 q2
   by_cases hlt:j+1<us.length
   ·have e1:=getD_map vpv us [] hlt;have e2:=getD_map (limP c sl) us [] hlt;obtain⟨k1,k2,k3⟩:=hb _ (mem_getD [] hlt);have hk:=skind_ok k2;have hm:=limM_ok hr k1 k2 k3;have hg:=fun hi=>Signed_ok (vs:=vs) (sd:=sd) (i:=(i+(j+1))) hv hi hl hsd hm.1 hm.2
    rw[drop_getD [] hlt,List.map_cons,maskG]at hR0;have hm1:=hm.1;have hm2:2*limM c sl (us.getD (j+1) [])<LIM:=by have:=hm.2;omega
    clear hm k1 k2 k3;generalize us.getD (j+1) []=u at*;simp only[vpv]at e1 hk;simp only[limP]at e2;generalize limM c sl u=M at*;generalize limR c sl u=Rr at*;have hg:=hg hij
    cases hsg:signO vs sd (i+(j+1)) M with
    |error e=>
     rw[hsg]at hg hR0;simp only[signP]at hg hR0;have he:(e !=0)=true:=by rcases signO_err hsg with rfl|rfl<;>rfl
     subst hR0;clear hR;repeat' first|simp only[go_sem,seval,l2,l3,e1,e2,he,q1,q2]|refine cP hk ?_|refine cP hg ?_|refine sB ?_|(first|apply pX|apply bX)<;>intro hc|refine⟨oD,?_⟩|exact oD|fail
     all_goals rfl
    |ok y=>
     have hsi:i+(j+1+1)≤2147483647:=(signO_ok hv hm1 hm2 hl hij hsg).2;rw[hsg]at hg hR0;simp only[signP]at hg hR0;have hgo:=hR (j+1,ms++[y]) ⟨by omega,by simp[hlm],hsi,hR0⟩ (by simp only;omega)
     simp only[zs_snoc]at hgo;clear hR;repeat' first|simp only[go_sem,seval,l2,l3,e1,e2,q1,q2]|refine cP hk ?_|refine cP hg ?_|refine sB ?_|(first|apply pX|apply bX)<;>intro hc|refine⟨oD,?_⟩|exact oD|fail
     refine hgo _ ?_
     (refine AS.Le.of (by first|decide|omega) ?_ ?_<;>simp[LeT,LeH,tget,hget,AV.bd,AV.bd.bdL,u8,bd_cellsOf,bcells_bd,icells_bd])
     all_goals exact⟨by omega,fun c hc=>by rcases hc with hc|rfl|rfl<;>first|exact bd_row hc|rfl⟩
   ·have hjl:us.length=j+1:=by omega
    rw[List.drop_of_length_le (by omega)]at hR0
    simp only[List.map_nil,maskG]at hR0;subst hR0;have q3:=rowF_all zRow ms;have q4:=rowF_chunk zRow ms;rw[hlm]at q4;rw[hjl];clear hR;repeat' first|simp only[go_sem,seval,l2,hjl,q1,q2,q3,q4,rowF_mapO]|refine sB ?_|(first|apply pX|apply bX)<;>intro hc|refine⟨oD,?_⟩|exact oD|fail
    all_goals rfl
noncomputable def commP (s:Stm) (vs:List Bytes) (sd:Bytes) (j:Nat):Except Int (List Int)→PV
 | .ok ms=> .tup [.sl (ms.map Zp), .sl ((imgL s (ms.map ipz)).map .s),T vs sd j,E 0]
 | .error e=> .tup [.sl [], .sl [],T [] [] 0,E e]
theorem maskG_facts {c sl:Bytes} (hr:RuOK c sl) {us:List Bytes} (hb: ∀b∈us,validN b=true∧b≠[]∧b.length≤16) {vs:List Bytes} {sd:Bytes} {i:Nat} (hv:vs.all validN=true) (hi:i≤2147483647) (hl:vs.length<1000000) {ms:List Int} (h:maskG vs sd (us.map (limM c sl)) i []= .ok ms):
  ms.length=us.length∧(∀j,j<us.length→(ms.getD j 0).natAbs<limM c sl (us.getD j []))∧i+us.length≤2147483647∧ ∀x∈ms.map ipz,izok x=true:=by
 have hM: ∀M∈us.map (limM c sl),1≤M∧2*M<LIM:=fun M hM=>by
  obtain⟨b,hbm,rfl⟩:=List.mem_map.1 hM;obtain⟨k1,k2,k3⟩:=hb b hbm;have:=limM_ok hr k1 k2 k3;omega
 obtain⟨r,h1,h2,h3,h4⟩:=maskG_ok hv hl _ _ _ _ hM hi h;rw[List.nil_append]at h1;rw[←h1]at h2 h3;clear h1;simp only[List.length_map]at h2 h3 h4;have hlt: ∀j,j<us.length→(ms.getD j 0).natAbs<limM c sl (us.getD j []):=fun j hj=>by
  have:=h3 j hj;simpa[List.getD_eq_getElem?_getD,hj]using this
 refine⟨h2,hlt,h4,fun x hx=> ?_⟩
 obtain⟨z,hz,rfl⟩:=List.mem_map.1 hx;obtain⟨j,hj,rfl⟩:=List.getElem_of_mem hz;have:=hlt j (by omega)
 rw[List.getD_eq_getElem?_getD,List.getElem?_eq_getElem hj]at this;exact izok_ipz (Nat.lt_trans this (limM_lt hr (hb _ (mem_getD [] (by omega))).2.2))
theorem Commit16_ok {c sl:Bytes} (hr:RuOK c sl) {s:Stm} (hs:StOK s) (h0:s.vars≠[]) (h00:s.eqs≠[]) (ho:OneS s) {vs:List Bytes} {sd:Bytes} {i:Nat} (hv:vs.all validN=true) (hi:i≤2147483647) (hl:vs.length<1000000) (hsd:sd.length<1000000):
  EvP Tryz.prog 55 [.agg [.s c, .s sl],s.pv,T vs sd i] (commP s vs sd (i+s.vars.length) (maskG vs sd (s.vars.map (limM c sl)) i [])):=by
 have hb:=sbounds_ok hr hs h0;have hd:=draw16_ok hr hs h0 (vs:=vs) (sd:=sd) (i:=i) hv hi hl hsd
 cases hR:maskG vs sd (s.vars.map (limM c sl)) i []with
 |error e=>
  have he:(e !=0)=true:=by rcases maskG_err hR with rfl|rfl<;>rfl
  rw[hR]at hd;obtain⟨gs,us,es⟩:=s;simp only[maskP,commP,Stm.pv]at hb hd⊢;refine eW Tryz.call55 Tryz.func55 ?_;repeat' first|simp only[go_sem,seval,he]|refine cP hb ?_|refine cP hd ?_|refine sB ?_|(first|apply pX|apply bX)<;>intro hc|refine⟨oD,?_⟩|exact oD|fail
  all_goals rfl
 |ok ms=>
  have hf:=maskG_facts hr hs.v hv hi hl hR;have nv:=hs.nv;have hm:=Images_ok hs h00 ho (w:=ms.map ipz) (by rw[List.length_map];omega)
  rw[List.all_eq_true.2 hf.2.2.2,List.length_map,hf.1]at hm;simp only[Bool.true_and,decide_true,if_true,Bool.not_true,Bool.false_eq_true,if_false,ne_eq,not_true_eq_false,List.map_map]at hm;have hZ:(ipv∘ipz)=Zp:=rfl;rw[hZ]at hm;rw[hR]at hd;simp only[maskP,commP]at hd⊢;generalize imgL s (ms.map ipz)=L at*;obtain⟨gs,us,es⟩:=s;simp only[Stm.pv]at hb hd hm⊢;refine eW Tryz.call55 Tryz.func55 ?_;repeat' first|simp only[go_sem,seval]|refine cP hb ?_|refine cP hd ?_|refine cP hm ?_|refine sB ?_|(first|apply pX|apply bX)<;>intro hc|refine⟨oD,?_⟩|exact oD|fail
  all_goals rfl
theorem r15Order0 (m:Bytes) (us:List Bytes) (es:List Eqn):EvP Tryz.prog 70 [(Stm.mk [(m,[])] us es).pv] (.s []):=by
 unfold Stm.pv;simp only[List.map_cons,List.map_nil,gpv];refine eW Tryz.call70 Tryz.func70 ?_;repeat' first|simp only[go_sem,seval]|refine sB ?_|(first|apply pX|apply bX)<;>intro hc|refine⟨oD,?_⟩|exact oD|fail
 refine loop_unroll' ?_;repeat' first|simp only[go_sem,seval,nn]|refine sB ?_|(first|apply pX|apply bX)<;>intro hc|refine⟨oD,?_⟩|exact oD|fail
 refine loop_unroll' ?_;repeat' first|simp only[go_sem,seval]|refine sB ?_|(first|apply pX|apply bX)<;>intro hc|refine⟨oD,?_⟩|exact oD|fail
theorem rInRange_ok {b:Bytes} (vb:validN b=true) (hb:b≠[]) (q:Bytes) {n:Bool} {a:Bytes} (va:validN a=true):EvP Tryz.prog 69 [vpv b, .s q, .agg [.b n, .s a]] (.b (decide (num a<num b))):=by
 have hc:=rCmp_ok a b;rw[va,vb]at hc;simp only[Bool.and_self,if_true]at hc;have hd:=cmpLtD (num a) (num b);have hbb:(b==[])=false:=by simpa using hb
 rw[←hd];clear hd;generalize cmpN (num a) (num b)=cm at*;unfold vpv;refine eW Tryz.call69 Tryz.func69 ?_;repeat' first|simp only[go_sem,seval,hbb]|refine cP hc ?_|refine sB ?_|(first|apply pX|apply bX)<;>intro hc|refine⟨oD,?_⟩|exact oD|fail
theorem rHolds_ok {s:Stm} (hs:StOK s) (h0:s.eqs≠[]) (ho:OneS s) {m:Bytes} (hg1:s.groups=[(m,[])]) {w:List (Bool×Bytes)} (hwl:w.length=s.vars.length) (hw: ∀x∈w,izok x=true):EvP Tryz.prog 71 [s.pv, .sl (w.map ipv)] (.tup [.b (inW s.vars w&&holdB s w),E 0]):=by
 have nv:=hs.nv;have ne:=hs.ne;have hv:=hs.v;have hr:=rcheck15_ok hs (w:=w) (by omega)
 rw[List.all_eq_true.2 hw,if_neg (by simp),if_neg (by simp[hwl])]at hr
 have hm:=rimages_ok hs h0 ho hwl hw;have hL:=imgL_len s w;unfold holdB;generalize imgL s w=L at*;obtain⟨gs,vs,es⟩:=s;simp only at hg1;subst hg1;have hor:=r15Order0 m vs es;simp only[Stm.pv,List.map_cons,List.map_nil,gpv]at hr hm hL hor⊢;simp only at ne nv hv hwl;have l2:(vs.map vpv).length=vs.length:=List.length_map ..;have l3:(es.map Eqn.pv).length=es.length:=List.length_map ..;have l4:(L.map PV.s).length=es.length:=by rw[List.length_map];exact hL
 have l5:(w.map ipv).length=vs.length:=by rw[List.length_map];exact hwl
 clear hs ho;refine eW Tryz.call71 Tryz.func71 ?_;repeat' first|simp only[go_sem,seval,l5]|refine cP hr ?_|refine sB ?_|(first|apply pX|apply bX)<;>intro hc|refine⟨oD,?_⟩|exact oD|fail
 refine loop_run (α:=Nat) (fun i=>vs.length-i) (fun i=>⟨[(1, .v (.sl (w.map ipv))),(2, .p 1000 0 0),(7,E' i)],[(1000,⟨0,[.v (.sl [G m []]), .v (.sl (vs.map vpv)), .v (.sl (es.map Eqn.pv))],false,none⟩)],_⟩) (fun i=>i≤vs.length∧ ∀j,j<i→num (w.getD j d0I).2<num (vs.getD j [])) 0 (fun _=>Nat.le_refl _) ⟨Nat.zero_le _,fun j hj=>by omega⟩ ?_ ?_
 ·exact lE
 ·rintro i ⟨hi,hall⟩ R hR
  by_cases hlt:i<vs.length
  ·have e1:=getD_map vpv vs [] hlt;have e2:=getD_map ipv w d0I (i:=i) (by omega)
   obtain⟨b1,b2,-⟩:=hv _ (mem_getD [] hlt);have kw:=hw _ (mem_getD d0I (show i<w.length by omega))
   have hgo:=fun h=>hR (i+1) ⟨by omega,h⟩ (by omega)
   have hbad:=fun h: ¬num (w.getD i d0I).2<num (vs.getD i [])=>all_bad (p:=fun i=>decide (num (w.getD i d0I).2<num (vs.getD i []))) hlt (decide_eq_false h)
   have hnx:num (w.getD i d0I).2<num (vs.getD i [])→ ∀j,j<i+1→num (w.getD j d0I).2<num (vs.getD j []):=fun h j hj=>by
    by_cases hji:j<i
    ·exact hall j hji
    ·obtain rfl:j=i:=by omega
     exact h
   rw[←inW]at hbad;clear hR hall hm;generalize vs.getD i []=b at*;obtain⟨x,hx⟩: ∃x,x=w.getD i d0I:=⟨_,rfl⟩;rw[←hx]at e2 kw hbad hnx;clear hx;obtain⟨n,a⟩:=x;simp only[izok,Bool.and_eq_true]at kw hbad hnx;have hc:=rInRange_ok b1 b2 [] (n:=n) kw.1;simp only[vpv]at e1 hc;simp only[ipv]at e2
   by_cases hlt2:num a<num b
   ·have hgo:=hgo (hnx hlt2);rw[decide_eq_true hlt2]at hc;repeat' first|simp only[go_sem,seval,l2,l5,e1,e2]|refine cP hor ?_|refine cP hc ?_|refine sB ?_|(first|apply pX|apply bX)<;>intro hc|refine⟨oD,?_⟩|exact oD|fail
    refine hgo _ ?_;exact lE
   ·rw[hbad hlt2];rw[decide_eq_false hlt2]at hc;repeat' first|simp only[go_sem,seval,l2,l5,e1,e2]|refine cP hor ?_|refine cP hc ?_|refine sB ?_|(first|apply pX|apply bX)<;>intro hc|refine⟨oD,?_⟩|exact oD|fail
    all_goals rfl
  ·obtain rfl:i=vs.length:=by omega
   have hg:inW vs w=true:=all_good fun j hj=>decide_eq_true (hall j hj)
   rw[hg,Bool.true_and];clear hR hall hv hw hor hr;repeat' first|simp only[go_sem,seval,l4,l5]|refine cP hm ?_|refine sB ?_|(first|apply pX|apply bX)<;>intro hc|refine⟨oD,?_⟩|exact oD|fail
   refine loop_run (α:=Nat) (fun i=>es.length-i) (fun i=>⟨[(2, .p 1000 0 0),(8, .v (.sl (L.map .s))),(10,E' i)],[(1000,⟨0,[.v (.sl [G m []]), .v (.sl (vs.map vpv)), .v (.sl (es.map Eqn.pv))],false,none⟩)],_⟩) (fun i=>i≤es.length∧ ∀j,j<i→L.getD j []=(es.getD j d0Q).tgt) 0 (fun _=>Nat.le_refl _) ⟨Nat.zero_le _,fun j hj=>by omega⟩ ?_ ?_
   ·exact lE
   ·rintro i ⟨hi,hall⟩ R hR
    by_cases hlt:i<es.length
    ·have e1:=getD_map Eqn.pv es d0Q hlt;have e2:=getD_map PV.s L [] (i:=i) (by omega)
     have hgo:=fun h=>hR (i+1) ⟨by omega,h⟩ (by omega)
     have hnx:L.getD i []=(es.getD i d0Q).tgt→ ∀j,j<i+1→L.getD j []=(es.getD j d0Q).tgt:=fun h j hj=>by
      by_cases hji:j<i
      ·exact hall j hji
      ·obtain rfl:j=i:=by omega
       exact h
     have hbad: ¬L.getD i []=(es.getD i d0Q).tgt→decide (L=es.map (·.tgt))=false:=fun h=>decide_eq_false fun g=>h (by rw[g];simp[List.getD_eq_getElem?_getD,hlt])
     clear hR hall;generalize es.getD i d0Q=q at*;generalize L.getD i []=x at*;obtain⟨g,t,ts⟩:=q;simp only[Eqn.pv]at e1 hbad hnx
     by_cases hxt:x=t
     ·have hgo:=hgo (hnx hxt);have e3:(x==t)=true:=by simpa using hxt
      repeat' first|simp only[go_sem,seval,l3,l4,e1,e2,e3]|refine sB ?_|(first|apply pX|apply bX)<;>intro hc|refine⟨oD,?_⟩|exact oD|fail
      refine hgo _ ?_;exact lE
     ·have e3:(x==t)=false:=by simpa using hxt
      rw[hbad hxt];repeat' first|simp only[go_sem,seval,l3,l4,e1,e2,e3]|refine sB ?_|(first|apply pX|apply bX)<;>intro hc|refine⟨oD,?_⟩|exact oD|fail
      all_goals rfl
    ·obtain rfl:i=es.length:=by omega
     rw[decide_eq_true (eq_tgts hL hall)];repeat' first|simp only[go_sem,seval,l4]|refine sB ?_|(first|apply pX|apply bX)<;>intro hc|refine⟨oD,?_⟩|exact oD|fail
     all_goals rfl
end Go.Proofs.YtmledjfbgjnknaaGreatDoor
