/-
  Part of the proof, part Y4. Own work.
-/
import Derived.Test.YtmledjfbgjnknaaGreatDoorY3
set_option linter.all false
namespace Go.Dom
open Go.RowKit
section
variable {P:Program} {C:Cx} {hf:Nat→Option AObj} {wr:Nat→Prop} {base nm:Nat} {w:World} {tf:Nat→AV}
theorem take_one {α:Type} {l:List α} {q:Nat} (h:q<l.length):(l.drop q).take 1=[l[q]]:=by
 rw[List.drop_eq_getElem_cons h];rfl
theorem getD_lt {α:Type} {l:List α} {q:Nat} (h:q<l.length) (d:α):l.getD q d=l[q]:=by
 simp[List.getD_eq_getElem?_getD,h]
theorem ok_ld (h:HR C hf wr w) {t:TypeId} {ag:Bool} {z:Nat} (hag:isAggT P t=some ag) (hz:sizeT P t=some z) (h1:ag=true∨z=1)
  {vx:AV} {x:Value} (hx:AR C vx x) {ao:AO}
  (ha:aLd hf ag z vx=some ao) (hp:ao.pre):OpOk P C hf wr base nm (vS (Instr.loadAt t x)) w ao.v ao.up:=by
 unfold aLd at ha
 replace hx:=hx.nz
 generalize vx.nz=vx at hx ha
 cases vx<;>first|(simp at ha;done)|skip
 case p n ver q=>
  simp only at ha
  cases hn:hf n with
  |none=>simp[hn]at ha
  |some ob=>
   simp only[hn,Option.some.injEq]at ha;subst ha;obtain⟨hv,hlen⟩:=hp;have hval:=inv_p hx h hn hv;subst hval;obtain⟨vs,hrun,hrel⟩:=run_loadObj (P:=P) h hn hlen
   cases ag with
   |true=>
    refine .val h (val:= .agg vs.toArray) ?_ (.mkAgg hrel);simp only[Instr.loadAt,Instr.sureAddr,loadVar,Sem.run_bind,Sem.run_pure,Result.andThen,isAggT_run hag,sizeT_run hz,hrun,if_true]
   |false=>
    have hz1:z=1:=by simpa using h1
    subst hz1;have hlen':q<ob.cells.length:=by omega
    rw[take_one hlen']at hrel;obtain⟨v,us,rfl,hv1,hnil⟩:=hrel.uncons;rw[hnil.nil_inv]at hrun;refine .val h (val:=v) ?_ (by simp only[Bool.false_eq_true,if_false];rw[getD_lt hlen'];exact hv1)
    simp only[Instr.loadAt,Instr.sureAddr,loadVar,Sem.run_bind,Sem.run_pure,Result.andThen,isAggT_run hag,Bool.false_eq_true,if_false,load_one hrun]
 case pp y q=>
  simp only[Option.some.injEq]at ha;subst ha
  cases hx with
  |pp x o' vs bk of h1' hl hr hrel=>
   have hlen:q+z≤vs.length:=by have:q+z≤y.cells.length:=hp;omega
   have hrun:=run_loadPure (P:=P) h vs hr q z hlen;have hrl:RelL (PR C.rd) y.cells vs:=⟨hl,hrel⟩;have hrl':=(hrl.drop q).take z
   cases ag with
   |true=>
    refine .val h (val:= .agg ((vs.drop q).take z).toArray) ?_ (.v (.agg _ _ (fun x hx=>h1' x (List.mem_of_mem_drop (List.mem_of_mem_take hx))) hrl'.1 hrl'.2))
    simp only[Instr.loadAt,Instr.sureAddr,loadVar,Sem.run_bind,Sem.run_pure,Result.andThen,isAggT_run hag,sizeT_run hz,hrun,if_true]
   |false=>
    have hz1:z=1:=by simpa using h1
    subst hz1;have hlen':q<y.cells.length:=by have:q+1≤y.cells.length:=hp;omega
    rw[take_one hlen']at hrl';obtain⟨v,us,he,hv1,hnil⟩:=hrl'.uncons;rw[hnil.nil_inv]at he;rw[he]at hrun;refine .val h (val:=v) ?_ (by simp only[Bool.false_eq_true,if_false];rw[getD_lt hlen'];exact .v hv1)
    simp only[Instr.loadAt,Instr.sureAddr,loadVar,Sem.run_bind,Sem.run_pure,Result.andThen,isAggT_run hag,Bool.false_eq_true,if_false,load_one hrun]
theorem ok_bin (h:HR C hf wr w) {op:BinOp} {t:TypeId} (ox oy:Operand) {x y:Value} {vx vy:AV} (hx:AR C vx x) (hy:AR C vy y) {ao:AO}
  (ha:aBin op vx vy=some ao) (hp:ao.pre):OpOk P C hf wr base nm (vS (do eqGuard op t ox oy x y;binOp op t x y)) w ao.v ao.up:=by
 unfold aBin at ha
 split at ha
 ·skip
  have e1:=inv_i hx;have e2:=inv_i hy;subst e1;subst e2;obtain⟨val,hrun,hv,hup⟩:=run_ibin (P:=P) (C:=C) ha hp t ox oy w;rw[hup];exact .val h hrun hv
 ·skip
  have e1:=inv_s hx;have e2:=inv_s hy;subst e1;subst e2;obtain⟨val,hrun,hv,hup⟩:=run_sbin (P:=P) (C:=C) ha hp t ox oy w;rw[hup];exact .val h hrun hv
 ·cases ha
theorem run_equalIn_bool (d:Nat) {t:TypeId} (ht:P.underlying t=some .bool) (p q:Bool) (w:World):(Op.equalIn (d+1) t (.bool p) (.bool q)).run P w= .ok (p==q) w:=by
 simp[Op.equalIn,run_underlying ht]
theorem run_equal_bool {t:TypeId} (ht:P.underlying t=some .bool) (p q:Bool) (w:World):(Op.equal t (.bool p) (.bool q)).run P w= .ok (p==q) w:=run_equalIn_bool 9999 ht p q w
theorem ok_beq (h:HR C hf wr w) {ng:Bool} {t:TypeId} (ox oy:Operand) (ht:P.underlying t=some .bool) {x y:Value} {p q:Bool} (hx:AR C (.v (.b p)) x) (hy:AR C (.v (.b q)) y):
  OpOk P C hf wr base nm (vS (do eqGuard (if ng then .neq else .eql) t ox oy x y;binOp (if ng then .neq else .eql) t x y)) w (.v (.b (if ng then !(p==q)else p==q))) []:=by
 have e1:=inv_b hx;have e2:=inv_b hy;subst e1;subst e2;refine .val h (val:= .bool (if ng then !(p==q)else p==q)) ?_ (.v (.b _))
 cases ng<;>simp only[Bool.false_eq_true,if_false,if_true,eqGuard,binOp,Sem.run_bind,Sem.run_pure,Result.andThen,run_equal_bool ht]<;>simp
theorem ok_un (h:HR C hf wr w) {op:UnOp} {x:Value} {vx:AV} (hx:AR C vx x) {ao:AO}
  (ha:aUn op vx=some ao):OpOk P C hf wr base nm (vS (Op.unary op x)) w ao.v ao.up:=by
 unfold aUn at ha
 split at ha
 ·simp only[retO,Option.some.injEq]at ha;subst ha
  skip
  have e:=inv_b hx;subst e;exact .val h (val:= .bool _) (by simp[Op.unary]) (.v (.b _))
 ·simp only[retO,Option.some.injEq]at ha;subst ha
  skip
  have e:=inv_i hx;subst e;exact .val h (val:= .int _ _) (by simp only[Op.unary,Op.intArith];rfl) (.v (.i _ _))
 ·simp only[retO,Option.some.injEq]at ha;subst ha
  skip
  have e:=inv_i hx;subst e;exact .val h (val:= .int _ _) (by simp only[Op.unary,Op.intBits];rfl) (.v (.i _ _))
 ·cases ha
theorem ok_cvi (h:HR C hf wr w) {s d:TypeId} {ks k:IntKind} (hs:P.underlying s=some (.int ks)) (hd:P.underlying d=some (.int k)) {k':IntKind} {n:Int} {x:Value} (hx:AR C (.v (.i k' n)) x):
  OpOk P C hf wr base nm (vS (convert s d x)) w (.v (.i k (k.wrap n))) []:=by
 have e:=inv_i hx;subst e;exact .val h (val:= .int k (k.wrap n)) (by simp[convert,run_underlying hs,run_underlying hd,Conv.intToInt]) (.v (.i _ _))
theorem ok_cvs (h:HR C hf wr w) {s d:TypeId} (hs:P.underlying s=some .string) (hd:P.underlying d=some .string) {b:Bytes} {x:Value} (hx:AR C (.v (.s b)) x):
  OpOk P C hf wr base nm (vS (convert s d x)) w (.v (.s b)) []:=by
 have e:=inv_s hx;subst e;exact .val h (val:= .string _) (by simp[convert,run_underlying hs,run_underlying hd]) (.v (.s _))
end
end Go.Dom
namespace Go.Dom
open Go.RowKit
inductive OR (C:Cx):Option AV→Option Value→Prop where
 |none:OR C none none
 |some {x:AV} {v:Value} (h:AR C x v):OR C (some x) (some v)
theorem flat_get {l:List PV} {z:Nat} (hz: ∀x∈l,x.cells.length=z) {i:Nat} (hi:i<l.length):((l.flatMap PV.cells).drop (i*z)).take z=l[i].cells:=by
 induction l generalizing i with
 |nil=>simp at hi
 |cons x l ih=>
  have hx:x.cells.length=z:=hz x (by simp)
  cases i with
  |zero=>simp[List.flatMap_cons,←hx]
  |succ i=>
   rw[List.flatMap_cons,Nat.succ_mul,Nat.add_comm,←List.drop_drop];have:(x.cells++l.flatMap PV.cells).drop z=l.flatMap PV.cells:=by rw[←hx];simp
   rw[this];simpa using ih (fun y hy=>hz y (by simp[hy])) (by simpa using hi)
theorem flat_len {l:List PV} {z:Nat} (hz: ∀x∈l,x.cells.length=z):(l.flatMap PV.cells).length=l.length*z:=by
 induction l with
 |nil=>simp
 |cons x l ih=>
  rw[List.flatMap_cons,List.length_append,hz x (by simp),ih fun y hy=>hz y (by simp[hy])]
  simp[Nat.succ_mul];omega
theorem flat_take {l:List PV} {z:Nat} (hz: ∀x∈l,x.cells.length=z) (h:Nat):(l.take h).flatMap PV.cells=(l.flatMap PV.cells).take (h*z):=by
 induction l generalizing h with
 |nil=>simp
 |cons x l ih=>
  cases h with
  |zero=>simp
  |succ h=>
   have hx:x.cells.length=z:=hz x (by simp)
   rw[List.take_succ_cons,List.flatMap_cons,List.flatMap_cons,List.take_append,ih fun y hy=>hz y (by simp[hy])]
   have e1:x.cells.take ((h+1)*z)=x.cells:=List.take_of_length_le (by rw[hx,Nat.succ_mul];omega)
   have e2:(h+1)*z-z=h*z:=by rw[Nat.succ_mul];omega
   rw[e1,hx,e2]
theorem flat_drop {l:List PV} {z:Nat} (hz: ∀x∈l,x.cells.length=z) (h:Nat):(l.drop h).flatMap PV.cells=(l.flatMap PV.cells).drop (h*z):=by
 induction l generalizing h with
 |nil=>simp
 |cons x l ih=>
  cases h with
  |zero=>simp
  |succ h=>
   have hx:x.cells.length=z:=hz x (by simp)
   rw[List.drop_succ_cons,List.flatMap_cons,List.drop_append,ih fun y hy=>hz y (by simp[hy])]
   have e1:x.cells.drop ((h+1)*z)=[]:=List.drop_of_length_le (by rw[hx,Nat.succ_mul];omega)
   have e2:(h+1)*z-z=h*z:=by rw[Nat.succ_mul];omega
   rw[e1,hx,e2,List.nil_append]
theorem PR.sub {rd:Rd} {l:List PV} {q:Option Addr} {len cap:Nat} (h:PR rd (.sl l) (.slice q len cap)) {z lo hi:Nat} (hz: ∀x∈l,x.cells.length=z) (h1:lo≤hi) (h2:hi≤l.length):
  PR rd (.sl ((l.take hi).drop lo)) (.slice (if cap=lo then q else q.map (·.add (lo*z))) (hi-lo) (cap-lo)):=by
 cases h with
 |sl0=>
  simp at h2;have h3:hi=0:=h2;have h4:lo=0:=by omega
  subst h3;subst h4;simpa using PR.sl0
 |sle a cap=>
  simp at h2;have h3:hi=0:=h2;have h4:lo=0:=by omega
  subst h3;subst h4;have e:a.add 0=a:=by simp[Addr.add]
  have:=PR.sle (rd:=rd) a cap
  by_cases hc:cap=0
  ·subst hc;simpa using this
  ·simpa[hc,e]using this
 |sl l z' vs bk of cap hc hz' h1' hl hr h=>
  have hlen:((l.take hi).drop lo).length=hi-lo:=by simp;omega
  have hfl:=flat_len hz;have hsub:((l.take hi).drop lo).flatMap PV.cells=((l.flatMap PV.cells).take (hi*z)).drop (lo*z):=by
   rw[flat_drop (z:=z) (fun x hx=>hz x (List.mem_of_mem_take hx)),flat_take hz]
  have hrel:RelL (PR rd) (l.flatMap PV.cells) vs:=⟨hl,h⟩;have hrel':=(hrel.take (hi*z)).drop (lo*z)
  by_cases hcap:cap=lo
  ·have h3:hi-lo=0:=by omega
   rw[if_pos hcap,h3];have h4:(l.take hi).drop lo=[]:=by apply List.eq_nil_of_length_eq_zero;omega
   rw[h4];exact .sl [] 0 [] bk of (cap-lo) (by simp) (by simp) (by simp) (by simp) (by simp) (by simp)
  ·rw[if_neg hcap];simp only[Option.map_some,add_none];have:=PR.sl (rd:=rd) ((l.take hi).drop lo) z ((vs.take (hi*z)).drop (lo*z)) bk (of+lo*z) (cap-lo) (by omega)
    (fun x hx=>hz x (List.mem_of_mem_take (List.mem_of_mem_drop hx)))
    (by rw[hsub];exact fun y hy=>h1' y (List.mem_of_mem_take (List.mem_of_mem_drop hy)))
    (by rw[hsub];exact hrel'.1)
    (by
     intro k v hv;rw[List.getElem?_drop,List.getElem?_take]at hv
     split at hv
     ·rw[Nat.add_assoc];exact hr _ _ hv
     ·cases hv)
    (by rw[hsub];exact hrel'.2)
   rw[hlen]at this;exact this
section
variable {P:Program} {C:Cx} {hf:Nat→Option AObj} {wr:Nat→Prop} {base nm:Nat} {w:World} {tf:Nat→AV}
theorem run_bounds {sl:Bool} {len cap:Nat} {vlo vhi:Option AV} {xlo xhi:Option Value} {l h:Nat} {p:Prop} (hb:bounds len vlo vhi=some (l,h,p)) (hp:p) (hlo:OR C vlo xlo) (hhi:OR C vhi xhi) (hc:len≤cap):
  (Instr.sliceBounds sl len cap xlo xhi none).run P w= .ok (l,h,cap) w∧l≤h∧h≤len:=by
 unfold bounds at hb
 split at hb
 ·simp only[Option.some.injEq,Prod.mk.injEq]at hb;obtain⟨rfl,rfl,rfl⟩:=hb
  cases hlo;cases hhi
  exact⟨by simp[Instr.sliceBounds],by omega,by omega⟩
 ·simp only[Option.some.injEq,Prod.mk.injEq]at hb;obtain⟨rfl,rfl,rfl⟩:=hb
  cases hlo with|some h1=> ?_
  cases hhi;have e:=inv_i h1;subst e;refine⟨?_,by omega,by omega⟩
  simp only[Instr.sliceBounds,Sem.run_bind,Sem.run_pure,Result.andThen];rw[run_sliceBound _ _ _ _ _ hp.1 hp.2]
 ·simp only[Option.some.injEq,Prod.mk.injEq]at hb;obtain⟨rfl,rfl,rfl⟩:=hb;cases hlo
  cases hhi with|some h1=> ?_
  have e:=inv_i h1;subst e;refine⟨?_,by omega,by omega⟩
  simp only[Instr.sliceBounds,Sem.run_bind,Sem.run_pure,Result.andThen];rw[run_sliceBound _ _ _ _ _ hp.1 (by omega)]
 ·simp only[Option.some.injEq,Prod.mk.injEq]at hb;obtain⟨rfl,rfl,rfl⟩:=hb
  cases hlo with|some h1=> ?_
  cases hhi with|some h2=> ?_
  have e:=inv_i h1;subst e;have e:=inv_i h2;subst e;refine⟨?_,by omega,by omega⟩
  simp only[Instr.sliceBounds,Sem.run_bind,Sem.run_pure,Result.andThen];rw[run_sliceBound _ _ _ _ _ (by omega) (by omega)]
  simp only[Result.andThen];rw[run_sliceBound _ _ _ _ _ (by omega) (by omega)]
 ·cases hb
theorem ok_slS (h:HR C hf wr w) {t:TypeId} (ht:P.underlying t=some .string) {b:Bytes} {x:Value} (hx:AR C (.v (.s b)) x) {vlo vhi:Option AV} {xlo xhi:Option Value} (hlo:OR C vlo xlo) (hhi:OR C vhi xhi)
  {l hh:Nat} {p:Prop} (hb:bounds b.length vlo vhi=some (l,hh,p)) (hp:p):OpOk P C hf wr base nm (vS (Instr.sliceAt t x xlo xhi none)) w (.v (.s ((b.take hh).drop l))) []:=by
 have e:=inv_s hx;subst e;have es:(ByteArray.mk b.toArray).size=b.length:=by simp[ByteArray.size]
 obtain⟨hrun,h1,h2⟩:=run_bounds (P:=P) (w:=w) (sl:=false) (cap:=b.length) hb hp hlo hhi (Nat.le_refl _);refine .val h (val:= .string ⟨((b.take hh).drop l).toArray⟩) ?_ (.v (.s _));have hx:(ByteArray.mk b.toArray).extract l hh=⟨((b.take hh).drop l).toArray⟩:=by
  apply ByteArray.ext;simp[List.drop_take]
 simp only[Instr.sliceAt,Instr.slice,Sem.run_bind,run_underlying ht,Result.andThen,Option.isSome_none,Bool.false_eq_true,if_false,Sem.run_pure,es,hrun,hx]
theorem ok_slL (h:HR C hf wr w) {t e:TypeId} (ht:P.underlying t=some (.slice e)) {z:Nat} (hz:sizeT P e=some z) {ls:List PV} {q:Option Addr} {len cap:Nat} (hx:PR C.rd (.sl ls) (.slice q len cap)) {vlo vhi:Option AV} {xlo xhi:Option Value} (hlo:OR C vlo xlo) (hhi:OR C vhi xhi)
  {l hh:Nat} {p:Prop} (hb:bounds ls.length vlo vhi=some (l,hh,p)) (hp:p) (hzz: ∀x∈ls,x.cells.length=z):OpOk P C hf wr base nm (vS (Instr.sliceAt t (.slice q len cap) xlo xhi none)) w (.v (.sl ((ls.take hh).drop l))) []:=by
 have hlen:len=ls.length∧ls.length≤cap:=by cases hx<;>simp_all
 obtain⟨hlen,hcap⟩:=hlen;subst hlen;obtain⟨hrun,h1,h2⟩:=run_bounds (P:=P) (w:=w) (sl:=true) (cap:=cap) hb hp hlo hhi hcap;refine .val h (val:= .slice (if cap=l then q else q.map (·.add (l*z))) (hh-l) (cap-l)) ?_ (.v (hx.sub hzz h1 h2))
 simp only[Instr.sliceAt,Instr.slice,Sem.run_bind,run_underlying ht,Result.andThen,Sem.run_pure,hrun,sizeT_run hz]
end
end Go.Dom
namespace Go.Dom
open Go.RowKit
section
variable {P:Program} {C:Cx} {hf:Nat→Option AObj} {wr:Nat→Prop} {base nm:Nat} {w:World} {tf:Nat→AV}
theorem ok_slR (h:HR C hf wr w) {t e:TypeId} (ht:P.underlying t=some (.slice e)) {z:Nat} (hz:sizeT P e=some z) {n ver o len:Nat} {x:Value} (hx:AR C (.rs n ver o len z) x) {vlo vhi:Option AV} {xlo xhi:Option Value} (hlo:OR C vlo xlo) (hhi:OR C vhi xhi)
  {l hh:Nat} {p:Prop} (hb:bounds len vlo vhi=some (l,hh,p)) (hp:p):OpOk P C hf wr base nm (vS (Instr.sliceAt t x xlo xhi none)) w (.rs n ver (o+l*z) (hh-l) z) []:=by
 cases hx with
 |rs n ver o len z b o' cap ha hc ho hx=>
 obtain⟨hrun,h1,h2⟩:=run_bounds (P:=P) (w:=w) (sl:=true) (cap:=cap) hb hp hlo hhi hc;refine .val h (val:= .slice (if cap=l then some ⟨b,o',none⟩else(some ⟨b,o',none⟩:Option Addr).map (·.add (l*z))) (hh-l) (cap-l)) ?_ ?_
 ·simp only[Instr.sliceAt,Instr.slice,Sem.run_bind,run_underlying ht,Result.andThen,Sem.run_pure,hrun,sizeT_run hz]
 ·by_cases hcl:cap=l
  ·rw[if_pos hcl];refine .rs n ver _ _ z b o' _ ha (by omega) (.inl (by omega)) fun c hc'=> ?_
   obtain⟨h3,h4⟩:=hx c hc';refine⟨h3,fun e=>⟨(h4 e).1,?_⟩⟩
   have:=(h4 e).2;rw[hcl]at this;simp[hcl];exact this
  ·rw[if_neg hcl];simp only[Option.map_some,add_none];refine .rs n ver _ _ z b _ _ ha (by omega) (.inr ?_) fun c hc'=> ?_
   ·have:cap≠0:=by omega
    rcases ho with ho|ho
    ·omega
    ·rw[ho]
   ·obtain⟨h3,h4⟩:=hx c hc';refine⟨h3,fun e=>⟨(h4 e).1,?_⟩⟩
    have:=(h4 e).2;have h5:l*z+(cap-l)*z=cap*z:=by rw[←Nat.add_mul];congr 1;omega
    omega
theorem ok_slA (h:HR C hf wr w) {t e:TypeId} {cnt:Nat} (ht:P.underlying t=some (.array cnt e)) {z:Nat} (hz:sizeT P e=some z) {n ver o:Nat} {x:Value} (hx:AR C (.p n ver o) x) {ob:AObj} (hn:hf n=some ob) (hver:ob.ver=ver) (hlen:o+cnt*z≤ob.cells.length)
  {vlo vhi:Option AV} {xlo xhi:Option Value} (hlo:OR C vlo xlo) (hhi:OR C vhi xhi)
  {l hh:Nat} {p:Prop} (hb:bounds cnt vlo vhi=some (l,hh,p)) (hp:p):OpOk P C hf wr base nm (vS (Instr.sliceAt t x xlo xhi none)) w (.rs n ver (o+l*z) (hh-l) z) []:=by
 have hal:=(h.live n ob hn).1;have hcur:=(h.live n ob hn).2;have e:=inv_p hx h hn hver;subst e;obtain⟨hrun,h1,h2⟩:=run_bounds (P:=P) (w:=w) (sl:=false) (cap:=cnt) hb hp hlo hhi (Nat.le_refl _);obtain⟨cs,el,hh1,hh2,hh3,-⟩:=h.obj n ob hn;refine .val h (val:= .slice (some (if cnt=l then⟨C.mu n,o,none⟩else(⟨C.mu n,o,none⟩:Addr).add (l*z))) (hh-l) (cnt-l)) ?_ ?_
 ·simp only[Instr.sliceAt,Sem.run_bind,run_underlying ht,Result.andThen,Sem.run_pure,Instr.sureAddr,hrun,sizeT_run hz]
 ·have h5:l*z+(cnt-l)*z=cnt*z:=by rw[←Nat.add_mul];congr 1;omega
  have key: ∀c,C.cur n=some c→ver≤c∧(ver=c→C.mu n=C.mu n∧o+l*z+(cnt-l)*z≤C.sz n):=by
   intro c hc;rw[hcur]at hc;injection hc with hc;subst hc
   exact⟨by omega,fun _=>⟨rfl,by omega⟩⟩
  by_cases hcl:cnt=l
  ·rw[if_pos hcl];exact .rs n ver _ _ z _ o _ hal (by omega) (.inl (by omega)) key
  ·rw[if_neg hcl,add_none];exact .rs n ver _ _ z _ _ _ hal (by omega) (.inr rfl) key
theorem ok_slF (h:HR C hf wr w) {t e:TypeId} (ht:P.underlying t=some (.slice e)) {z:Nat} (hz:sizeT P e=some z) {ls:List PV} {q:Option Addr} {len cap:Nat} (hx:PR C.rd (.sl ls) (.slice q len cap)) {vlo:Option AV} {xlo:Option Value} (hlo:OR C vlo xlo)
  {kh km:IntKind} {hi mx:Int} {l hh:Nat} {p:Prop} (hb:bounds ls.length vlo (some (.v (.i kh hi)))=some (l,hh,p)) (hp:p) (hm:mx=hi) (hzz: ∀x∈ls,x.cells.length=z):
  OpOk P C hf wr base nm (vS (Instr.sliceAt t (.slice q len cap) xlo (some (.int kh hi)) (some (.int km mx)))) w (.fs ((ls.take hh).drop l)) []:=by
 have hlen:len=ls.length∧ls.length≤cap:=by cases hx<;>simp_all
 obtain⟨hlen,hcap⟩:=hlen;subst hlen;subst hm;obtain⟨-,h1,h2⟩:=run_bounds (P:=P) (w:=w) (sl:=true) (cap:=cap) hb hp hlo (.some (.v (.i kh mx))) hcap;have hhe:hh=mx.toNat∧0≤mx∧mx≤ls.length∧((vlo=none∧l=0)∨ ∃kl lo,vlo=some (.v (.i kl lo))∧l=lo.toNat∧0≤lo∧lo≤mx):=by
  unfold bounds at hb
  split at hb<;>simp only[Option.some.injEq,Prod.mk.injEq,reduceCtorEq]at hb
  ·rename_i heq;cases heq
  ·rename_i heq;cases heq
  ·rename_i heq;simp only[Option.some.injEq,AV.v.injEq,PV.i.injEq]at heq;obtain⟨rfl,rfl⟩:=heq;obtain⟨rfl,rfl,rfl⟩:=hb;exact⟨rfl,hp.1,hp.2, .inl ⟨rfl,rfl⟩⟩
  ·rename_i kl lo _ _ heq;simp only[Option.some.injEq,AV.v.injEq,PV.i.injEq]at heq;obtain⟨rfl,rfl⟩:=heq;obtain⟨rfl,rfl,rfl⟩:=hb;exact⟨rfl,by omega,by omega, .inr ⟨_,_,rfl,rfl,by omega,by omega⟩⟩
 obtain⟨rfl,h3,h4,h5⟩:=hhe;have hsub:=hx.sub (z:=z) (lo:=l) (hi:=mx.toNat) hzz h1 h2;have hq: ∃a,(if mx.toNat=l then q else q.map (·.add (l*z)))=a∧PR C.rd (.sl ((ls.take mx.toNat).drop l)) (.slice a (mx.toNat-l) (mx.toNat-l)):=by
  refine⟨_,rfl,?_⟩;have hlen':((ls.take mx.toNat).drop l).length=mx.toNat-l:=by simp;omega
  by_cases e:mx.toNat=l
  ·rw[if_pos e];have h6:(ls.take mx.toNat).drop l=[]:=by apply List.eq_nil_of_length_eq_zero;omega
   rw[h6,e,Nat.sub_self]
   cases hx with
   |sl0=>exact .sl0
   |sle a cap=>exact .sle a 0
   |sl l' z' vs bk of cap hc hz' h1' hl hr h=>exact .sl [] 0 [] bk of 0 (by simp) (by simp) (by simp) (by simp) (by simp) (by simp)
  ·rw[if_neg e];have e':cap≠l:=by omega
   rw[if_neg e']at hsub;generalize (ls.take mx.toNat).drop l=r at*;generalize q.map (·.add (l*z))=qq at*;rw[←hlen']at hsub⊢;generalize cap-l=cap' at hsub;generalize hrr:r.length=rr at hsub⊢
   cases hsub with
   |sl0=>exact .sl0
   |sle a cap=>exact .sle a _
   |sl l' z' vs bk of cap hc hz' h1' hl hr h=>exact .sl _ z' vs bk of _ (Nat.le_refl _) hz' h1' hl hr h
 obtain⟨a,hqa,hpr⟩:=hq;have hlen':((ls.take mx.toNat).drop l).length=mx.toNat-l:=by simp;omega
 refine .val h (val:= .slice a (mx.toNat-l) (mx.toNat-l)) ?_ ?_
 ·have hb1:(Instr.sliceBounds true ls.length cap xlo (some (.int kh mx)) (some (.int km mx))).run P w= .ok (l,mx.toNat,mx.toNat) w:=by
   rcases h5 with⟨rfl,rfl⟩|⟨kl,lo,rfl,rfl,h6,h7⟩
   ·cases hlo;simp only[Instr.sliceBounds,Sem.run_bind,Sem.run_pure,Result.andThen];rw[run_sliceBound _ _ _ _ _ h3 (by omega)]
    simp only[Result.andThen];rw[run_sliceBound _ _ _ _ _ h3 (by omega)]
   ·cases hlo with|some h8=> ?_
    have e:=inv_i h8;subst e;simp only[Instr.sliceBounds,Sem.run_bind,Sem.run_pure,Result.andThen];rw[run_sliceBound _ _ _ _ _ h3 (by omega)]
    simp only[Result.andThen];rw[run_sliceBound _ _ _ _ _ h3 (by omega)]
    simp only[Result.andThen];rw[run_sliceBound _ _ _ _ _ h6 (by omega)]
  simp only[Instr.sliceAt,Instr.slice,Sem.run_bind,run_underlying ht,Result.andThen,Sem.run_pure,hb1,sizeT_run hz,hqa]
 ·have:=AR.fs (C:=C) ((ls.take mx.toNat).drop l) a (by rw[hlen'];exact hpr)
  rw[hlen']at this;exact this
theorem ok_slRm (h:HR C hf wr w) {t e:TypeId} (ht:P.underlying t=some (.slice e)) {z:Nat} (hz:sizeT P e=some z) {n ver o len:Nat} {x:Value} (hx:AR C (.rs n ver o len z) x) {vlo:Option AV} {xlo:Option Value} (hlo:OR C vlo xlo)
  {kh km:IntKind} {hi mx:Int} {l hh:Nat} {p:Prop} (hb:bounds len vlo (some (.v (.i kh hi)))=some (l,hh,p)) (hp:p) (hm:mx=hi):
  OpOk P C hf wr base nm (vS (Instr.sliceAt t x xlo (some (.int kh hi)) (some (.int km mx)))) w (.rs n ver (o+l*z) (hh-l) z) []:=by
 subst hm
 cases hx with
 |rs n ver o len z b o' cap ha hc ho hx=>
 obtain⟨-,h1,h2⟩:=run_bounds (P:=P) (w:=w) (sl:=true) (cap:=cap) hb hp hlo (.some (.v (.i kh mx))) hc;have hhe:hh=mx.toNat∧0≤mx∧mx≤len∧((vlo=none∧l=0)∨ ∃kl lo,vlo=some (.v (.i kl lo))∧l=lo.toNat∧0≤lo∧lo≤mx):=by
  unfold bounds at hb
  split at hb<;>simp only[Option.some.injEq,Prod.mk.injEq,reduceCtorEq]at hb
  ·rename_i heq;cases heq
  ·rename_i heq;cases heq
  ·rename_i heq;simp only[Option.some.injEq,AV.v.injEq,PV.i.injEq]at heq;obtain⟨rfl,rfl⟩:=heq;obtain⟨rfl,rfl,rfl⟩:=hb;exact⟨rfl,hp.1,hp.2, .inl ⟨rfl,rfl⟩⟩
  ·rename_i kl lo _ _ heq;simp only[Option.some.injEq,AV.v.injEq,PV.i.injEq]at heq;obtain⟨rfl,rfl⟩:=heq;obtain⟨rfl,rfl,rfl⟩:=hb;exact⟨rfl,by omega,by omega, .inr ⟨_,_,rfl,rfl,by omega,by omega⟩⟩
 obtain⟨rfl,h3,h4,h5⟩:=hhe;refine .val h (val:= .slice (if mx.toNat=l then some ⟨b,o',none⟩else(some ⟨b,o',none⟩:Option Addr).map (·.add (l*z))) (mx.toNat-l) (mx.toNat-l)) ?_ ?_
 ·have hb1:(Instr.sliceBounds true len cap xlo (some (.int kh mx)) (some (.int km mx))).run P w= .ok (l,mx.toNat,mx.toNat) w:=by
   rcases h5 with⟨rfl,rfl⟩|⟨kl,lo,rfl,rfl,h6,h7⟩
   ·cases hlo;simp only[Instr.sliceBounds,Sem.run_bind,Sem.run_pure,Result.andThen];rw[run_sliceBound _ _ _ _ _ h3 (by omega)]
    simp only[Result.andThen];rw[run_sliceBound _ _ _ _ _ h3 (by omega)]
   ·cases hlo with|some h8=> ?_
    have e:=inv_i h8;subst e;simp only[Instr.sliceBounds,Sem.run_bind,Sem.run_pure,Result.andThen];rw[run_sliceBound _ _ _ _ _ h3 (by omega)]
    simp only[Result.andThen];rw[run_sliceBound _ _ _ _ _ h3 (by omega)]
    simp only[Result.andThen];rw[run_sliceBound _ _ _ _ _ h6 (by omega)]
  simp only[Instr.sliceAt,Instr.slice,Sem.run_bind,run_underlying ht,Result.andThen,Sem.run_pure,hb1,sizeT_run hz]
 ·by_cases hcl:mx.toNat=l
  ·rw[if_pos hcl];refine .rs n ver _ _ z b o' _ ha (by omega) (.inl (by omega)) fun c hc'=> ?_
   obtain⟨h7,h8⟩:=hx c hc';refine⟨h7,fun e=>⟨(h8 e).1,?_⟩⟩
   have h9:=(h8 e).2;have h10:l*z≤cap*z:=Nat.mul_le_mul_right _ (by omega)
   rw[hcl,Nat.sub_self,Nat.zero_mul];omega
  ·rw[if_neg hcl];simp only[Option.map_some,add_none];refine .rs n ver _ _ z b _ _ ha (by omega) (.inr ?_) fun c hc'=> ?_
   ·have:cap≠0:=by omega
    rcases ho with ho|ho
    ·omega
    ·rw[ho]
   ·obtain⟨h7,h8⟩:=hx c hc';refine⟨h7,fun e=>⟨(h8 e).1,?_⟩⟩
    have h9:=(h8 e).2;have h10:l*z+(mx.toNat-l)*z=mx.toNat*z:=by rw[←Nat.add_mul];congr 1;omega
    have h11:mx.toNat*z≤cap*z:=Nat.mul_le_mul_right _ (by omega)
    omega
end
end Go.Dom
