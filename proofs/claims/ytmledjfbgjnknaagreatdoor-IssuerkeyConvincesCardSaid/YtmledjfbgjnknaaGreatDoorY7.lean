/-
  Part of the proof, part Y7. Own work.
-/
import Derived.Lib.ConvBytes
import Derived.Test.YtmledjfbgjnknaaGreatDoorY6
import Derived.Lib.Builder
import Derived.Lib.UnsafeStr
import Derived.Laws.StructEq
set_option linter.all false
namespace Go.Dom
open Go.RowKit
theorem fill_seq (z:Nat): ∀(ps:List Value) (k:Nat) (cs:Array Value),(∀v∈ps,v.cells.size=z)→cs.size=(k+ps.length)*z→
  Instr.fill (fun i=>some (i*z,z)) cs ((ps.zipIdx k).map fun p=>(p.2,p.1))=some (cs.toList.take (k*z)++ps.flatMap (fun v=>v.cells.toList)).toArray:=by
 intro ps
 induction ps with
 |nil=>
  intro k cs _ hs;simp only[List.zipIdx_nil,List.map_nil,Instr.fill,List.flatMap_nil,List.append_nil];rw[List.take_of_length_le (by simp at hs⊢;omega)]
 |cons v ps ih=>
  intro k cs hv hs;have hvz:v.cells.size=z:=hv v (by simp)
  rw[List.zipIdx_cons,List.map_cons];simp only[Instr.fill,hvz];have hfit:k*z+z≤cs.size:=by
   rw[hs];have:(k+1)*z≤(k+(v::ps).length)*z:=Nat.mul_le_mul_right _ (by simp)
   rw[Nat.add_mul]at this;omega
  rw[if_neg (by simp;omega)]
  have hset:=set_cells_arr (k*z) v.cells.toList cs (by simpa[hvz]using hfit)
  simp only[Array.toArray_toList]at hset;rw[hset];rw[ih (k+1) _ (fun u hu=>hv u (by simp[hu])) (by
   have hl:v.cells.toList.length=z:=by simpa using hvz
   simp only[List.size_toArray,List.length_append,List.length_take,List.length_drop,hl,Array.length_toList];rw[hs]at hfit⊢;simp only[List.length_cons]at hfit⊢;have e:(k+1+ps.length)*z=(k+(ps.length+1))*z:=by congr 1;omega
   rw[e];omega)]
  congr 2;have hl:v.cells.toList.length=z:=by simpa using hvz
  have ht:(cs.toList.take (k*z)).length=k*z:=by simp;omega
  rw[List.flatMap_cons,←List.append_assoc];congr 1;have e1:(k+1)*z-k*z=z:=by rw[Nat.add_mul];omega
  have e2:(cs.toList.take (k*z)).take ((k+1)*z)=cs.toList.take (k*z):=List.take_of_length_le (by rw[ht,Nat.add_mul];omega)
  have e3:v.cells.toList.take z=v.cells.toList:=List.take_of_length_le (by omega)
  rw[List.append_assoc,List.take_append,ht,List.take_append,hl,e1,e2,e3];simp
theorem zip_of_range {α:Type} (l:List (Nat×α)) (n:Nat) (h:l.map (·.1)=List.range n):l=((l.map (·.2)).zipIdx).map fun p=>(p.2,p.1):=by
 have hl:l.length=n:=by have:=congrArg List.length h;simpa using this
 apply List.ext_getElem?;intro k;rw[List.getElem?_map,List.getElem?_zipIdx,List.getElem?_map]
 cases hk:l[k]? with
 |none=>simp
 |some p=>
  have hlt:k<l.length:=(List.getElem?_eq_some_iff.1 hk).1;have h1:(l.map (·.1))[k]?=some p.1:=by simp[hk]
  rw[h]at h1;have h2:p.1=k:=by
   rw[List.getElem?_range (by omega)]at h1
   injection h1 with h1;exact h1.symm
  simp[←h2]
section
variable {P:Program} {C:Cx} {hf:Nat→Option AObj} {wr:Nat→Prop} {base nm:Nat} {w:World} {tf:Nat→AV}
theorem run_bsl {t e:TypeId} (ht:P.underlying t=some (.slice e)) {z:Nat} (hz:sizeT P e=some z) {ze:List AV} (hze:zeroC P e=some ze) {n:Nat} (hn:n*z≤16777216) {ps:Array (Nat×Value)} (hps:ps.toList.map (·.1)=List.range n) (hv: ∀p∈ps.toList,p.2.cells.size=z):
  (Instr.buildSlice t n ps).run P w= .ok (.slice (some ⟨w.heap.size,0,none⟩) n n) (w.alloc (.cells ((ps.toList.map (·.2)).flatMap fun v=>v.cells.toList).toArray e)):=by
 obtain⟨zv,hzv,-,-⟩:=zeroC_run (C:=⟨fun _ _=>none,fun _=>True,fun _=>none,fun _=>0,fun _=>0⟩) hze
 have hl:ps.toList.length=n:=by have:=congrArg List.length hps;simpa using this
 have key: ∀zero:Array Value,Instr.fill (fun i=>some (i*z,z)) ((Array.range (n*z)).map (zero[·%zero.size]!)) ps.toList=some ((ps.toList.map (·.2)).flatMap fun v=>v.cells.toList).toArray:=by
  intro zero;have hzr:=zip_of_range ps.toList n hps;have:=fill_seq z (ps.toList.map (·.2)) 0 ((Array.range (n*z)).map (zero[·%zero.size]!)) (by
   intro v hv';obtain⟨p,hp,rfl⟩:=List.mem_map.1 hv';exact hv p hp) (by simp[hl])
  rw[←hzr]at this;rw[this];simp
 have hnn: ¬(n*z>2^24):=by omega
 by_cases h0:n*z=0
 ·have hk:=key #[];rw[h0]at hk;have h00: ¬((0:Nat)>2^24):=by omega
  simp only[Instr.buildSlice,Sem.run_bind,run_underlying ht,Result.andThen,sizeT_run hz,h0,if_true];rw[if_neg h00];simp only[Sem.run_bind,Sem.run_pure,Result.andThen,hk,newRow,run_newObj];rfl
 ·simp only[Instr.buildSlice,Sem.run_bind,run_underlying ht,Result.andThen,sizeT_run hz];rw[if_neg hnn];simp only[Sem.run_bind,Sem.run_pure,Result.andThen,h0,if_false,hzv,key,newRow,run_newObj];rfl
theorem PR.cells {rd:Rd} {y:PV} {v:Value} (h:PR rd y v) (hk: ∀l,y≠ .tup l): ∃us:List Value,v.cells=us.toArray∧RelL (PR rd) y.cells us∧ ∀c∈y.cells,c.one=true:=by
 cases h with
 |agg l vs h1 hl h=>exact⟨vs,rfl,⟨hl,h⟩,h1⟩
 |tup l vs hl h=>exact absurd rfl (hk l)
 |b x=>exact⟨[_],rfl, .cons (.b x) .nil,by simp[PV.cells,PV.one]⟩
 |i k n=>exact⟨[_],rfl, .cons (.i k n) .nil,by simp[PV.cells,PV.one]⟩
 |s x=>exact⟨[_],rfl, .cons (.s x) .nil,by simp[PV.cells,PV.one]⟩
 |sl0=>exact⟨[_],rfl, .cons .sl0 .nil,by simp[PV.cells,PV.one]⟩
 |sle a cap=>exact⟨[_],rfl, .cons (.sle a cap) .nil,by simp[PV.cells,PV.one]⟩
 |sl l z vs bk of cap hc hz h1 hl hr h=>exact⟨[_],rfl, .cons (.sl l z vs bk of cap hc hz h1 hl hr h) .nil,by simp[PV.cells,PV.one]⟩
 |fn f=>exact⟨[_],rfl, .cons (.fn f) .nil,by simp[PV.cells,PV.one]⟩
 |fn0=>exact⟨[_],rfl, .cons .fn0 .nil,by simp[PV.cells,PV.one]⟩
 |p0=>exact⟨[_],rfl, .cons .p0 .nil,by simp[PV.cells,PV.one]⟩
 |if0=>exact⟨[_],rfl, .cons .if0 .nil,by simp[PV.cells,PV.one]⟩
 |ifc t x v h=>exact⟨[_],rfl, .cons (.ifc t x v h) .nil,by simp[PV.cells,PV.one]⟩
 |pt x o vs bk of h1 hl hr h=>exact⟨[_],rfl, .cons (.pt x o vs bk of h1 hl hr h) .nil,by simp[PV.cells,PV.one]⟩
 |fc f a c va vc hla hlc ha hc=>exact⟨[_],rfl, .cons (.fc f a c va vc hla hlc ha hc) .nil,by simp[PV.cells,PV.one]⟩
theorem mkFc_ok {rd:Rd} {f:Fn} {oa oc:Option (List PV)} {y:PV} {va vc:List Value} (h:mkFc f oa oc=some y) (ha: ∀a,oa=some a→RelL (PR rd) a va) (hc: ∀c,oc=some c→RelL (PR rd) c vc):PR rd y (.func f va.toArray vc.toArray):=by
 unfold mkFc at h
 split at h
 ·simp only[Option.some.injEq]at h;subst h;rw[(ha [] rfl).nil_inv,(hc [] rfl).nil_inv];exact .fn _
 ·simp only[Option.some.injEq]at h;subst h;exact .fc _ _ _ va vc (ha _ rfl).1 (hc _ rfl).1 (ha _ rfl).2 (hc _ rfl).2
 ·cases h
theorem mkFc_one {f:Fn} {oa oc:Option (List PV)} {y:PV} (h:mkFc f oa oc=some y):y.one=true:=by
 unfold mkFc at h
 split at h<;>first|(cases h;done)|(simp only[Option.some.injEq]at h;subst h;rfl)
theorem pv0_ok {x:AV} {y:PV} {v:Value} (h:AR C x v) (hx:x.pv0=some y):PR C.rd y v:=by
 unfold AV.pv0 at hx
 split at hx<;>simp only[Option.some.injEq,reduceCtorEq]at hx<;>subst hx
 ·cases h with|v h=>exact h
 ·cases h with|fs l a h=>exact h
 ·cases h;exact .sl0
 ·cases h with|pp _ _ vs bk of h1 hl hr h=>exact .pt _ _ vs bk of h1 hl hr h
theorem pv0s_ok {l:List AV} {ys:List PV} {vs:List Value} (h:RelL (AR C) l vs) (hl:mapO AV.pv0 l=some ys):RelL (PR C.rd) ys vs:=by
 obtain⟨m1,m2⟩:=mapO_some hl;refine⟨by rw[←m1];exact h.1,fun k y v hy hv=> ?_⟩
 have hk:k<l.length:=by have:=(List.getElem?_eq_some_iff.1 hy).1;omega
 exact pv0_ok (h.2 k l[k] v (by simp[hk]) hv) (m2 k _ y (by simp[hk]) hy)
theorem pv1_ok {x:AV} {y:PV} {v:Value} (h:AR C x v) (hx:x.pv1=some y):PR C.rd y v:=by
 unfold AV.pv1 at hx
 split at hx
 ·simp only[Option.some.injEq]at hx;subst hx;cases h with|v h=>exact h
 ·simp only[Option.some.injEq]at hx;subst hx;cases h with|fs l a h=>exact h
 ·simp only[Option.some.injEq]at hx;subst hx;cases h;exact .sl0
 ·simp only[Option.some.injEq]at hx;subst hx;cases h with|pp _ _ vs bk of h1 hl hr h=>exact .pt _ _ vs bk of h1 hl hr h
 ·cases h with
  |fn f a c va vc hla hlc ha hc=>exact mkFc_ok hx (fun a' h'=>pv0s_ok ⟨hla,ha⟩ h') (fun c' h'=>pv0s_ok ⟨hlc,hc⟩ h')
 ·cases hx
theorem pv1_one {x:AV} {y:PV} (hx:x.pv1=some y) (h1:x.one=true):y.one=true:=by
 unfold AV.pv1 at hx
 split at hx
 ·simp only[Option.some.injEq]at hx;subst hx;exact h1
 ·simp only[Option.some.injEq]at hx;subst hx;rfl
 ·simp only[Option.some.injEq]at hx;subst hx;rfl
 ·simp only[Option.some.injEq]at hx;subst hx;rfl
 ·exact mkFc_one hx
 ·cases hx
theorem pvs_ok {l:List AV} {ys:List PV} {vs:List Value} (h:RelL (AR C) l vs) (hl:mapO AV.pv1 l=some ys) (h1:l.all AV.one=true):RelL (PR C.rd) ys vs∧ ∀y∈ys,y.one=true:=by
 obtain⟨m1,m2⟩:=mapO_some hl;have hg: ∀(k:Nat) (y:PV),ys[k]?=some y→ ∃x,l[k]?=some x∧x.pv1=some y:=by
  intro k y hy;have hk:k<l.length:=by have:=(List.getElem?_eq_some_iff.1 hy).1;omega
  exact⟨l[k],by simp[hk],m2 k _ y (by simp[hk]) hy⟩
 refine⟨⟨by rw[←m1];exact h.1,fun k y v hy hv=> ?_⟩,fun y hy=> ?_⟩
 ·obtain⟨x,hx,hxy⟩:=hg k y hy;exact pv1_ok (h.2 k x v hx hv) hxy
 ·obtain⟨k,hk,rfl⟩:=List.getElem_of_mem hy;obtain⟨x,hx,hxy⟩:=hg k ys[k] (by simp[hk])
  rw[List.all_eq_true]at h1;exact pv1_one hxy (h1 x (List.mem_of_getElem? hx))
theorem pvL_ok {l:List AV} {ys:List PV} {vs:List Value} (h:RelL (AR C) l vs) (hl:AV.pvL l=some ys):RelL (PR C.rd) ys vs∧ ∀y∈ys,∀m,y≠ .tup m:=by
 unfold AV.pvL at hl;obtain⟨m1,m2⟩:=mapO_some hl;have hg: ∀(k:Nat) (y:PV),ys[k]?=some y→ ∃x,l[k]?=some x∧(match x with
  | .agg l=>if l.all AV.one then(mapO AV.pv1 l).map PV.agg else none
  |x=>if x.okc then x.pv1 else none)=some y:=by
  intro k y hy;have hk:k<l.length:=by have:=(List.getElem?_eq_some_iff.1 hy).1;omega
  exact⟨l[k],by simp[hk],m2 k _ y (by simp[hk]) hy⟩
 have hone: ∀(x:AV) (y:PV) (v:Value),AR C x v→(match x with
  | .agg l=>if l.all AV.one then(mapO AV.pv1 l).map PV.agg else none
  |x=>if x.okc then x.pv1 else none)=some y→PR C.rd y v∧ ∀m,y≠ .tup m:=by
  intro x y v hxv hxy
  by_cases hag: ∃m,x= .agg m
  ·obtain⟨m,rfl⟩:=hag;simp only at hxy
   split at hxy
   ·rename_i hall;simp only[Option.map_eq_some_iff]at hxy;obtain⟨zs,hzs,rfl⟩:=hxy
    cases hxv with
    |agg _ us hl' h'=>
     obtain⟨p1,p2⟩:=pvs_ok ⟨hl',h'⟩ hzs hall;exact⟨.agg zs us p2 p1.1 p1.2,by simp⟩
   ·cases hxy
  ·have hxy':(if x.okc then x.pv1 else none)=some y:=by
    cases x<;>first|exact hxy|exact absurd ⟨_,rfl⟩ hag
   clear hxy;have hxy:=hxy'
   split at hxy
   ·rename_i hok;refine⟨pv1_ok hxv hxy,?_⟩;intro m hm;subst hm;unfold AV.pv1 at hxy
    split at hxy
    ·simp only[Option.some.injEq]at hxy;subst hxy;simp[AV.okc]at hok
    ·cases hxy
    ·cases hxy
    ·cases hxy
    ·have:=mkFc_one hxy;simp[PV.one]at this
    ·cases hxy
   ·cases hxy
 refine⟨⟨by rw[←m1];exact h.1,fun k y v hy hv=> ?_⟩,fun y hy=> ?_⟩
 ·obtain⟨x,hx,hxy⟩:=hg k y hy;exact(hone x y v (h.2 k x v hx hv) hxy).1
 ·obtain⟨k,hk,rfl⟩:=List.getElem_of_mem hy;obtain⟨x,hx,hxy⟩:=hg k ys[k] (by simp[hk])
  obtain⟨v,-,hv⟩:=h.get hx;exact(hone x _ v hv hxy).2
theorem rel_flat_p {rd:Rd} {xs:List PV} {vs:List Value} (h:RelL (PR rd) xs vs) (hk: ∀y∈xs,∀m,y≠ .tup m):RelL (PR rd) (xs.flatMap PV.cells) (vs.flatMap fun v=>v.cells.toList)∧ ∀c∈xs.flatMap PV.cells,c.one=true:=by
 induction xs generalizing vs with
 |nil=>rw[h.nil_inv];exact⟨.nil,by simp⟩
 |cons x xs ih=>
  obtain⟨v,us,rfl,h1,h2⟩:=h.uncons;obtain⟨i1,i2⟩:=ih h2 fun y hy=>hk y (by simp[hy])
  obtain⟨ws,hw,hr,ho⟩:=h1.cells (hk x (by simp))
  rw[List.flatMap_cons,List.flatMap_cons,hw];refine⟨hr.append i1,fun c hc=> ?_⟩
  rcases List.mem_append.1 hc with hc|hc
  ·exact ho c hc
  ·exact i2 c hc
theorem rel_flat_a {xs:List AV} {vs:List Value} (h:RelL (AR C) xs vs) (hk: ∀y∈xs,y.okc=true):RelL (AR C) (xs.flatMap AV.cells) (vs.flatMap fun v=>v.cells.toList):=by
 induction xs generalizing vs with
 |nil=>rw[h.nil_inv];exact .nil
 |cons x xs ih=>
  obtain⟨v,us,rfl,h1,h2⟩:=h.uncons;have i1:=ih h2 fun y hy=>hk y (by simp[hy])
  obtain⟨ws,hw,hr,-⟩:=h1.cells (hk x (by simp))
  rw[List.flatMap_cons,List.flatMap_cons,hw];exact hr.append i1
theorem ok_bsl_pure (h:HR C hf wr w) (hbase:base≤w.heap.size) {t e:TypeId} (ht:P.underlying t=some (.slice e)) {z:Nat} (hz:sizeT P e=some z) {ze:List AV} (hze:zeroC P e=some ze) {n:Nat} (hn:n*z≤16777216) {ps:Array (Nat×Value)} (hps:ps.toList.map (·.1)=List.range n)
  {l:List AV} (hr:RelL (AR C) l (ps.toList.map (·.2))) {xs:List PV} (hxs:AV.pvL l=some xs) (hc: ∀x∈xs,x.cells.length=z):
  OpOk P C hf wr base nm (vS (Instr.buildSlice t n ps)) w (.fs xs) []:=by
 obtain⟨hp,hnt⟩:=pvL_ok hr hxs;have hpl:ps.toList.length=n:=by have:=congrArg List.length hps;simpa using this
 have hxl:xs.length=n:=by have:=hp.1;rw[List.length_map]at this;omega
 have hv: ∀p∈ps.toList,p.2.cells.size=z:=by
  intro p hp';obtain⟨k,hk,rfl⟩:=List.getElem_of_mem hp';have hkx:k<xs.length:=by omega
  have:=hp.2 k xs[k] (ps.toList[k]).2 (by simp[hkx]) (by simp only[List.getElem?_map,List.getElem?_eq_getElem hk,Option.map_some])
  obtain⟨us,hu,hru,-⟩:=this.cells (hnt _ (List.getElem_mem hkx));rw[hu,List.size_toArray,←hru.1,hc _ (List.getElem_mem hkx)]
 have hrun:=run_bsl (P:=P) (w:=w) ht hz hze hn hps hv;obtain⟨hrf,hone⟩:=rel_flat_p hp hnt
 let vs:=(ps.toList.map (·.2)).flatMap fun v=>v.cells.toList
 have hle:=Cx.le_newPure h nm vs.toArray;refine⟨.slice (some ⟨w.heap.size,0,none⟩) n n,w.alloc (.cells vs.toArray e),C.newPure w nm vs.toArray, .inl (by simp only[vS,Sem.run_bind,hrun,Result.andThen,Sem.run_pure];rfl),?_,?_,hle,fun _=>Iff.rfl,Wf.alloc _ _ _,?_, .mu rfl⟩
 ·rw[←hxl];refine .fs xs _ (.sl xs z vs w.heap.size 0 xs.length (Nat.le_refl _) hc hone hrf.1 ?_ ?_)
  ·intro k v hv;simp only[Cx.newPure,if_true,Nat.zero_add];simpa using hv
  ·intro k x v hx hv;exact(hrf.2 k x v hx hv).mono hle.rd
 ·exact h.newPure nm vs.toArray e
 ·intro b hb
  funext o
  have:b≠w.heap.size:=by omega
  simp[Cx.newPure,this]
theorem ok_bsl_obj (h:HR C hf wr w) (hnm: ¬C.al nm) (hwr: ∀b,base≤b→wr b) (hbase:base≤w.heap.size) {t e:TypeId} (ht:P.underlying t=some (.slice e)) {z:Nat} (hz:sizeT P e=some z) {ze:List AV} (hze:zeroC P e=some ze) {n:Nat} (hn:n*z≤16777216) {ps:Array (Nat×Value)} (hps:ps.toList.map (·.1)=List.range n)
  {l:List AV} (hr:RelL (AR C) l (ps.toList.map (·.2))) (hc: ∀x∈l,x.okc=true∧x.cells.length=z):
  OpOk P C hf wr base nm (vS (Instr.buildSlice t n ps)) w (.rs nm 0 0 n z) [(nm,some ⟨0,l.flatMap AV.cells,false,none⟩)]:=by
 have hpl:ps.toList.length=n:=by have:=congrArg List.length hps;simpa using this
 have hxl:l.length=n:=by have:=hr.1;rw[List.length_map]at this;omega
 have hv: ∀p∈ps.toList,p.2.cells.size=z:=by
  intro p hp';obtain⟨k,hk,rfl⟩:=List.getElem_of_mem hp';have hkx:k<l.length:=by omega
  have:=hr.2 k l[k] (ps.toList[k]).2 (by simp[hkx]) (by simp only[List.getElem?_map,List.getElem?_eq_getElem hk,Option.map_some])
  obtain⟨us,hu,hru,-⟩:=this.cells (hc _ (List.getElem_mem hkx)).1;rw[hu,List.size_toArray,←hru.1,(hc _ (List.getElem_mem hkx)).2]
 have hrun:=run_bsl (P:=P) (w:=w) ht hz hze hn hps hv;have hrf:=rel_flat_a hr fun y hy=>(hc y hy).1
 have hfl:((ps.toList.map (·.2)).flatMap fun v=>v.cells.toList).length=n*z:=by
  rw[←hrf.1];clear hrf hr hrun hv hpl;subst hxl
  induction l with
  |nil=>simp
  |cons x l ih=>
   rw[List.flatMap_cons,List.length_append,(hc x (by simp)).2]
   have hps':True:=trivial;have:(l.flatMap AV.cells).length=l.length*z:=by
    clear ih hps hn
    induction l with
    |nil=>simp
    |cons y l ih=>rw[List.flatMap_cons,List.length_append,(hc y (by simp)).2,ih fun a ha=>hc a (by rcases List.mem_cons.1 ha with rfl|ha<;>simp[*]),List.length_cons,Nat.succ_mul];omega
   rw[this,List.length_cons,Nat.succ_mul];omega
 refine ok_new h hnm hwr hbase (.inl rfl) (vs:=((ps.toList.map (·.2)).flatMap fun v=>v.cells.toList).toArray) (el:=e) (val:= .slice (some ⟨w.heap.size,0,none⟩) n n) (.inl (by simp only[vS,Sem.run_bind,hrun,Result.andThen,Sem.run_pure])) (by have:=hrf.1;simpa using Nat.le_of_eq this) (fun _=>by simpa using hrf.1) (fun k x v hx hv=>hrf.2 k x v hx (by simpa using hv)) ?_
 refine .rs nm 0 0 n z _ 0 n (.inr rfl) (Nat.le_refl _) (.inr rfl) fun cc hcc=> ?_
 simp only[Cx.newObj,if_true]at hcc⊢;exact⟨Nat.zero_le _,fun _=>⟨trivial,by rw[List.size_toArray,hfl];omega⟩⟩
theorem ok_s2b (h:HR C hf wr w) (hbase:base≤w.heap.size) {s d e:TypeId} (hs:P.underlying s=some .string) (hd:P.underlying d=some (.slice e)) (he:P.underlying e=some (.int .u8)) {l:Bytes} {x:Value} (hx:AR C (.v (.s l)) x):
  OpOk P C hf wr base nm (vS (convert s d x)) w (.v (.sl (l.map u8))) []:=by
 cases hx with|v hx=> ?_
 cases hx;have hrun:=Lib.run_convert_string_bytes (P:=P) w s d e ⟨l.toArray⟩ hs hd he;have hcells: ∃vs:Array Value,vs=Lib.bytesCells w e ⟨l.toArray⟩:=⟨_,rfl⟩;obtain⟨vs,hvs⟩:=hcells;have hle:=Cx.le_newPure h nm vs;have hgc:l.length≤grownCap w l.length 0 e:=grownCap_ge w l.length 0 e;have hsz:(ByteArray.mk l.toArray).size=l.length:=by simp[ByteArray.size]
 have hget: ∀(k:Nat) (v:Value),(l.map fun c=>Value.int .u8 (c.toNat:Int))[k]?=some v→vs[k]?=some v:=by
  intro k v hv;rw[hvs];unfold Lib.bytesCells;have hk:k<l.length:=by have:=(List.getElem?_eq_some_iff.1 hv).1;simpa using this
  rw[Array.getElem?_append_left (by simpa using hk)]
  simpa using hv
 have hheap:(Lib.bytesWorld w e ⟨l.toArray⟩).heap.size=w.heap.size+1:=Lib.bytesWorld_size _ _ _;have hR:HR (C.newPure w nm vs) hf wr (Lib.bytesWorld w e ⟨l.toArray⟩):=by
  refine(h.newPure nm vs e (vs.size,vs.size+1)).world fun b hb=> ?_
  by_cases eb:b=w.heap.size
  ·subst eb;rw[Lib.bytesWorld_at_new,heap_alloc_new,hvs]
  ·have hb':b<w.heap.size:=by simp at hb;omega
   rw[Lib.bytesWorld_at_old _ _ _ _ hb',heap_alloc_old _ _ _ hb']
 refine⟨_,Lib.bytesWorld w e ⟨l.toArray⟩,C.newPure w nm vs, .inl (by simp only[vS,Sem.run_bind,hrun,Result.andThen,Sem.run_pure];rfl),?_,hR,hle,fun _=>Iff.rfl,?_,?_, .mu rfl⟩
 ·rw[hsz];have hm:(l.map u8).length=l.length:=List.length_map ..;rw[←hm];have hfl:(l.map u8).flatMap PV.cells=l.map u8:=by
   clear hrun hget hvs hle hgc hsz hheap hR hm
   induction l with
   |nil=>rfl
   |cons c l ih=>simp only[List.map_cons,List.flatMap_cons,ih];rfl
  refine .v (.sl (l.map u8) 1 (l.map fun c=>Value.int .u8 (c.toNat:Int)) w.heap.size 0 _ (by rw[hm];exact hgc) ?_ ?_ ?_ ?_ ?_)
  ·intro y hy;obtain⟨c,-,rfl⟩:=List.mem_map.1 hy;rfl
  ·intro y hy;rw[hfl]at hy;obtain⟨c,-,rfl⟩:=List.mem_map.1 hy;rfl
  ·rw[hfl];simp
  ·intro k v hv;simp only[Cx.newPure,if_true,Nat.zero_add];exact hget k v hv
  ·intro k y v hy hv;rw[hfl]at hy;rw[List.getElem?_map,Option.map_eq_some_iff]at hy hv;obtain⟨c,hc,rfl⟩:=hy;obtain⟨c',hc',rfl⟩:=hv;rw[hc]at hc';cases hc';exact .i _ _
 ·refine⟨rfl,?_,rfl,by rw[hheap];omega,fun b hb _=>Lib.bytesWorld_at_old _ _ _ _ hb⟩
  rfl
 ·intro b hb
  funext o
  have:b≠w.heap.size:=by omega
  simp[Cx.newPure,this]
end
end Go.Dom
namespace Go.Dom
open Go.RowKit
section
variable {P:Program} {C:Cx} {hf:Nat→Option AObj} {wr:Nat→Prop} {base nm:Nat} {w:World} {tf:Nat→AV}
theorem run_eq_ptr {ng:Bool} {tp te:TypeId} {j:TypeInfo} (ox oy:Operand) (hp:P.underlying tp=some (.pointer te)) (hte:P.info? te=some j) {p q:Option Addr} {r:Bool} (hpq:(p=q∧r=true)∨(p.isSome≠q.isSome∧r=false)) (w:World):
  (do eqGuard (if ng then .neq else .eql) tp ox oy (.pointer p) (.pointer q);binOp (if ng then .neq else .eql) tp (.pointer p) (.pointer q):Sem Value).run P w= .ok (.bool (if ng then !r else r)) w:=by
 have h: ∀d:Nat,(Op.equalIn (d+1) tp (.pointer p) (.pointer q)).run P w= .ok r w:=fun d=>by
  rcases hpq with⟨rfl,rfl⟩|⟨hne,rfl⟩
  ·cases p with
   |none=>simp[Op.equalIn,run_underlying hp]
   |some a=>
    simp only[Op.equalIn,Sem.run_bind,run_underlying hp,Result.andThen,sizeOf,typeInfo,hte];simp[hte,run_sameAddr_same]
  ·cases p<;>cases q<;>simp_all[Op.equalIn,run_underlying hp]
 have h':(Op.equal tp (.pointer p) (.pointer q)).run P w= .ok r w:=h 9999
 cases ng<;>simp[eqGuard,binOp,h']
theorem run_eq_nil {ng:Bool} {t e:TypeId} (ox oy:Operand) (hp:P.underlying t=some (.slice e)) (q:Option Addr) (l c:Nat) (w:World):
  (do eqGuard (if ng then .neq else .eql) t ox oy (.slice q l c) (.slice none 0 0);binOp (if ng then .neq else .eql) t (.slice q l c) (.slice none 0 0):Sem Value).run P w= .ok (.bool (if ng then !q.isNone else q.isNone)) w:=by
 have h: ∀d:Nat,(Op.equalIn (d+1) t (.slice q l c) (.slice none 0 0)).run P w= .ok q.isNone w:=fun d=>by
  cases q<;>simp[Op.equalIn,run_underlying hp]
 have h':(Op.equal t (.slice q l c) (.slice none 0 0)).run P w= .ok q.isNone w:=h 9999
 cases ng<;>simp[eqGuard,binOp,h']
theorem ok_snl (h:HR C hf wr w) {ng:Bool} {t e:TypeId} (ox oy:Operand) (hp:P.underlying t=some (.slice e)) {x:Value} {sx':SX} (hx:AR C (sx'.ev tf) x) {ao:AO} (ha:aop nm (.snl ng sx') tf hf=some ao):
  OpOk P C hf wr base nm (vS (do eqGuard (if ng then .neq else .eql) t ox oy x (.slice none 0 0);binOp (if ng then .neq else .eql) t x (.slice none 0 0))) w ao.v ao.up:=by
 simp only[aop]at ha;generalize sx'.ev tf=vx at hx ha
 split at ha
 ·simp only[retO,Option.some.injEq]at ha;subst ha
  cases hx with|v hx=>cases hx<;>exact .val h (run_eq_nil ox oy hp _ _ _ w) (.ub _)
 ·simp only[retO,Option.some.injEq]at ha;subst ha
  cases hx with|v hx=>cases hx;exact .val h (run_eq_nil ox oy hp _ _ _ w) (by cases ng<;>exact .v (.b _))
 ·simp only[retO,Option.some.injEq]at ha;subst ha
  cases hx;exact .val h (run_eq_nil ox oy hp _ _ _ w) (by cases ng<;>exact .v (.b _))
 ·simp only[retO,Option.some.injEq]at ha;subst ha
  cases hx;exact .val h (run_eq_nil ox oy hp _ _ _ w) (.ub _)
 ·simp only[retO,Option.some.injEq]at ha;subst ha
  cases hx with|fs _ _ hx=>cases hx;exact .val h (run_eq_nil ox oy hp _ _ _ w) (by cases ng<;>exact .v (.b _))
 ·simp only[retO,Option.some.injEq]at ha;subst ha
  cases hx;exact .val h (run_eq_nil ox oy hp _ _ _ w) (by cases ng<;>exact .v (.b _))
 ·cases ha
theorem ok_peq (h:HR C hf wr w) {ng:Bool} {tp te:TypeId} {j:TypeInfo} (ox oy:Operand) (hp:P.underlying tp=some (.pointer te)) (hte:P.info? te=some j) {x y:Value} {vx vy:AV} (hx:AR C vx x) (hy:AR C vy y) {ao:AO} (ha:aPeq hf ng vx vy=some ao) (hpre:ao.pre):
  OpOk P C hf wr base nm (vS (do eqGuard (if ng then .neq else .eql) tp ox oy x y;binOp (if ng then .neq else .eql) tp x y)) w ao.v ao.up:=by
 unfold aPeq at ha
 replace hx:=hx.nz
 generalize vx.nz=vx at hx ha
 split at ha
 ·simp only[retO,Option.some.injEq]at ha;subst ha
  cases hx with|v hx=>cases hx;cases hy with|v hy=>cases hy;exact .val h (run_eq_ptr ox oy hp hte (r:=true) (.inl ⟨rfl,rfl⟩) w) (by cases ng<;>exact .v (.b _))
 ·simp only[retO,Option.some.injEq]at ha;subst ha
  cases hx;cases hy with|v hy=>cases hy;exact .val h (run_eq_ptr ox oy hp hte (r:=false) (.inr ⟨by simp,rfl⟩) w) (by cases ng<;>exact .v (.b _))
 ·simp only[retO,Option.some.injEq]at ha;subst ha
  cases hy;cases hx with|v hx=>cases hx;exact .val h (run_eq_ptr ox oy hp hte (r:=false) (.inr ⟨by simp,rfl⟩) w) (by cases ng<;>exact .v (.b _))
 ·simp only[retO,Option.some.injEq]at ha;subst ha
  cases hx;cases hy with|v hy=>cases hy;exact .val h (run_eq_ptr ox oy hp hte (r:=false) (.inr ⟨by simp,rfl⟩) w) (by cases ng<;>exact .v (.b _))
 ·split at ha
  ·rename_i hc;obtain⟨rfl,rfl,rfl⟩:=hc
   split at ha
   ·rename_i ob hn;simp only[Option.some.injEq]at ha;subst ha;rw[inv_p hx h hn hpre,inv_p hy h hn hpre];exact .val h (run_eq_ptr ox oy hp hte (r:=true) (.inl ⟨rfl,rfl⟩) w) (by cases ng<;>exact .v (.b _))
   ·cases ha
  ·cases ha
 ·cases ha
theorem run_partK {t:TypeId} {k:Nat} (hk:kindB P t k=true) {vs:List Value} {q:Nat} {v:Value} (hv:vs[q]?=some v) (w:World):(part t vs.toArray q).run P w= .ok v w:=by
 have h:(isAgg t).run P w= .ok false w:=by
  refine isAggT_run ?_ w;unfold kindB at hk;unfold isAggT
  cases hu:P.underlying t with
  |none=>rw[hu]at hk;cases hk
  |some d=>rw[hu]at hk;cases d<;>first|rfl|cases hk
 simp only[part,Sem.run_bind,h,Result.andThen,Bool.false_eq_true,if_false];simp[hv]
theorem run_eqFields {rd:Rd} (d:Nat): ∀(fs:List Field) (ks:List Nat) (q:Nat) (l m:List PV) (vs us:List Value) (r:Bool),ceqF P q fs ks=true→eqC ks l m=some r→
  (∀(k:Nat) (x:PV),l[k]?=some x→ ∃v,vs[q+k]?=some v∧PR rd x v)→(∀(k:Nat) (x:PV),m[k]?=some x→ ∃v,us[q+k]?=some v∧PR rd x v)→ ∀w:World,
  (Op.eqFields (d+1) vs.toArray us.toArray fs).run P w= .ok r w
 |[],ks,q,l,m,vs,us,r,hf,hc,_,_,w=>by
  cases ks with
  |cons=>cases hf
  |nil=>
   cases l<;>cases m<;>simp[eqC]at hc
   subst hc;simp[Op.eqFields]
 |f::fs,[],q,l,m,vs,us,r,hf,hc,_,_,w=>by cases hf
 |f::fs,k::ks,q,l,m,vs,us,r,hf,hc,hl,hm,w=>by
  simp only[ceqF,Bool.and_eq_true,beq_iff_eq,bne_iff_ne,ne_eq]at hf;obtain⟨⟨⟨h1,h2⟩,h3⟩,h4⟩:=hf;have key: ∀(x y:PV) (l' m':List PV) (e r':Bool),l=x::l'→m=y::m'→eqC ks l' m'=some r'→r=(e&&r')→
    (∀v u,PR rd x v→PR rd y u→(Op.equalIn (d+1) f.type v u).run P w= .ok e w)→(Op.eqFields (d+1) vs.toArray us.toArray (f::fs)).run P w= .ok r w:=by
   intro x y l' m' e r' e1 e2 hr' er hx;subst e1;subst e2;subst er;obtain⟨v,hv,hxv⟩:=hl 0 x rfl;obtain⟨u,hu,hyu⟩:=hm 0 y rfl;rw[Nat.add_zero]at hv hu;have ih:=run_eqFields d fs ks (q+1) l' m' vs us r' h4 hr'
    (fun k z hz=>by have:=hl (k+1) z (by simpa using hz);simpa[Nat.add_assoc,Nat.add_comm 1 k]using this)
    (fun k z hz=>by have:=hm (k+1) z (by simpa using hz);simpa[Nat.add_assoc,Nat.add_comm 1 k]using this) w
   simp only[Op.eqFields,ne_eq,h1,not_false_eq_true,if_true,Sem.run_bind,h2,run_partK h3 hv,run_partK h3 hu,Result.andThen,hx v u hxv hyu];cases e
   ·simp
   ·simpa using ih
  unfold eqC at hc
  split at hc
  ·cases‹_:: _=[]›
  ·rename_i a l' b m' e;injection e with e0 e1;subst e0;subst e1
   cases hr:eqC ks l' m' with
   |none=>rw[hr]at hc;cases hc
   |some r'=>
    rw[hr]at hc;simp only[Option.map_some,Option.some.injEq]at hc;refine key _ _ l' m' (a==b) r' rfl rfl hr hc.symm fun v u hv hu=> ?_
    cases hv;cases hu
    unfold kindB at h3
    split at h3<;>first|(cases h3;done)|skip
    rename_i hb;exact run_equalIn_bool d hb _ _ w
  ·rename_i a l' b m' e;injection e with e0 e1;subst e0;subst e1
   cases hr:eqC ks l' m' with
   |none=>rw[hr]at hc;cases hc
   |some r'=>
    rw[hr]at hc;simp only[Option.map_some,Option.some.injEq]at hc;refine key _ _ l' m' (a==b) r' rfl rfl hr hc.symm fun v u hv hu=> ?_
    cases hv;cases hu
    unfold kindB at h3
    split at h3<;>first|(cases h3;done)|skip
    rename_i hb;have:=run_equalIn_string (P:=P) w d f.type ⟨a.toArray⟩ ⟨b.toArray⟩ hb;simpa[ByteArray.toList_eq]using this
  ·cases hc
theorem ok_ceq (h:HR C hf wr w) {ng:Bool} {t:TypeId} {fs:Array Field} (ox oy:Operand) (hu:P.underlying t=some (.struct fs)) {ks:List Nat} (hk:ceqB P t ks=true) {x y:Value} {l m:List PV} {r:Bool} (hr:eqC ks l m=some r) (hx:AR C (.v (.agg l)) x) (hy:AR C (.v (.agg m)) y):
  OpOk P C hf wr base nm (vS (do eqGuard (if ng then .neq else .eql) t ox oy x y;binOp (if ng then .neq else .eql) t x y)) w (.v (.b (if ng then !r else r))) []:=by
 cases hx with|v hx=>cases hx with|agg _ vs a1 a2 a3=>
 cases hy with|v hy=>cases hy with|agg _ us b1 b2 b3=>
 have hfo:P.fieldsOf t=fs:=by simp[Program.fieldsOf,hu]
 simp only[ceqB,hu,Bool.and_eq_true,Bool.not_eq_true']at hk;obtain⟨⟨k1,k2⟩,k3⟩:=hk;have g:(Op.equalIn 10000 t (.agg vs.toArray) (.agg us.toArray)).run P w= .ok r w:=by
  rw[run_equalIn_struct (P:=P) w 9999 t _ _ (by rw[hfo];exact hu) k2,hfo]
  refine run_eqFields (rd:=C.rd) 9998 fs.toList ks 0 l m vs us r k1 hr (fun k x hx=> ?_) (fun k x hx=> ?_) w
  ·obtain⟨hk,_⟩:=List.getElem?_eq_some_iff.1 hx;rw[Nat.zero_add];exact⟨vs[k]'(by omega),by simp[show k<vs.length by omega],a3 k x _ hx (by simp[show k<vs.length by omega])⟩
  ·obtain⟨hk,_⟩:=List.getElem?_eq_some_iff.1 hx;rw[Nat.zero_add];exact⟨us[k]'(by omega),by simp[show k<us.length by omega],b3 k x _ hx (by simp[show k<us.length by omega])⟩
 refine .val h (val:= .bool (if ng then !r else r)) ?_ (.v (.b _))
 cases ng
 ·simp only[Bool.false_eq_true,if_false,Sem.run_bind,run_eqGuard_agg w .eql t ox oy _ _ k3,Result.andThen,run_eql_struct,g]
 ·simp only[if_true,Sem.run_bind,run_eqGuard_agg w .neq t ox oy _ _ k3,Result.andThen,run_neq_struct,g]
theorem ok_cvp (h:HR C hf wr w) {s d:TypeId} {ok:TypeId→Nat→Nat→Bool} {x:Value} {vx:AV} (hx:AR C vx x)
  (hrun: ∀(b o T n:Nat),w.shape? b=some (T,n)→o<n→ok T n o=true→(convert s d (.pointer (some ⟨b,o,none⟩))).run P w= .ok (.pointer (some ⟨b,o,none⟩)) w)
  {ao:AO} (ha:aCvp hf ok vx=some ao) (hpre:ao.pre):OpOk P C hf wr base nm (vS (convert s d x)) w ao.v ao.up:=by
 unfold aCvp at ha
 split at ha
 ·rename_i n ver o
  split at ha
  ·rename_i ob hn
   split at ha
   ·rename_i T hT;simp only[Option.some.injEq]at ha;subst ha;obtain⟨p1,p2,p3,p4⟩:=hpre;obtain⟨cs,el,g1,g2,g3,g4,g5⟩:=h.obj n ob hn;obtain⟨cs',g6⟩:=h.typ n ob hn T hT;rw[g1]at g6;injection g6 with g6;injection g6 with e1 e2 e3
    subst e1;subst e2;have hv:=inv_p hx h hn p1;subst hv;exact .val h (hrun (C.mu n) o el cs.size (by simp[World.shape?,g1]) (by rw[←g4 p3];exact p2) (by rw[←g4 p3];exact p4)) hx
   ·cases ha
  ·cases ha
 ·cases ha
theorem ok_sld (h:HR C hf wr w) {ts:Array TypeId} {ty:TypeId} {x:Value} {vx:AV} (hx:AR C vx x) {ao:AO} (ha:aSld vx=some ao) (hpre:ao.pre):
  OpOk P C hf wr base nm (vS (Builtin.unsafeSliceData_ ts ty #[x])) w ao.v ao.up:=by
 unfold aSld at ha
 split at ha
 ·simp only[retO,Option.some.injEq]at ha;subst ha;cases hx;exact .val h (Lib.run_unsafeSliceData_nil w ts ty 0 0) (.v .p0)
 ·rename_i n ver o len z;simp only[retP,Option.some.injEq]at ha;subst ha
  cases hx with
  |rs _ _ _ _ _ b o' cap hal hcap ho hx=>
   have hpre:0<len:=hpre;have hc:cap≠0:=by omega
   have ho':o'=o:=by rcases ho with ho|ho;exact absurd ho hc;exact ho
   subst ho';exact .val h (Lib.run_unsafeSliceData_row w ts ty ⟨b,o',none⟩ len cap hc) (.p n ver o' b hal fun c hc=>⟨(hx c hc).1,fun e=>((hx c hc).2 e).1⟩)
 ·cases ha
theorem isByte_ok {x:AV} {v:Value} (h:AR C x v) (hb:x= .v (u8 x.byte)):v= .int .u8 x.byte.toNat:=by
 rw[hb]at h
 cases h with|v h=>cases h;rfl
def Cx.kill (C:Cx) (nm n:Nat):Cx:={C with al:=fun k=>C.al k∨k=nm,cur:=fun k=>if k=n then none else C.cur k}
theorem Cx.le_kill (C:Cx) (nm n:Nat):C.Le (C.kill nm n):=by
 refine⟨fun _ _ _ h=>h,fun _ h=> .inl h,fun k _ d hd=> ?_⟩
 by_cases e:k=n
 ·simp[Cx.kill,e]at hd
 ·simp only[Cx.kill,e,if_false]at hd;exact⟨d,hd,Nat.le_refl _,fun _=>⟨rfl,rfl⟩⟩
theorem HR.kill (h:HR C hf wr w) (nm:Nat) {n:Nat} {ob:AObj} (hn:hf n=some ob) {w':World} (hoth: ∀b,b<w.heap.size→b≠C.mu n→w'.heap[b]?=w.heap[b]?):HR (C.kill nm n) (fun k=>if k=n then none else hf k) wr w':=by
 have hle:=C.le_kill nm n;have hold: ∀m oc,(if m=n then none else hf m)=some oc→m≠n∧hf m=some oc:=by
  intro m oc hm
  by_cases e:m=n
  ·simp[e]at hm
  ·simp only[e,if_false]at hm;exact⟨e,hm⟩
 have hblk: ∀m oc,hf m=some oc→m≠n→w'.heap[C.mu m]?=w.heap[C.mu m]?:=fun m oc hm e=>hoth _ (h.muLt hm) fun he=>e (h.inj _ _ _ _ hm hn he)
 refine⟨?_,?_,?_,?_,?_,?_,?_,?_⟩
 ·intro b o v hv;have h1:=h.rdw b o v hv;have hne:b≠C.mu n:=fun e=>by have hv':C.rd b o=some v:=hv;rw[e,h.sep n ob hn]at hv';cases hv'
  rw[←h1];exact World.cell?_of_block (hoth b (cell_lt h1) hne)
 ·intro m oc hm;obtain⟨e,hm⟩:=hold m oc hm;exact⟨.inl (h.live m oc hm).1,by simp[Cx.kill,e,(h.live m oc hm).2]⟩
 ·intro m hm
  by_cases e:m=n
  ·simp[Cx.kill,e]
  ·simp only[e,if_false]at hm;simp[Cx.kill,e,h.dead m hm]
 ·intro m oc hm k;obtain⟨e,hm⟩:=hold m oc hm;exact h.sep m oc hm k
 ·intro m m' oc oc' hm hm' hmu;exact h.inj _ _ _ _ (hold m oc hm).2 (hold m' oc' hm').2 hmu
 ·intro m oc hm;exact h.wr m oc (hold m oc hm).2
 ·intro m oc hm;obtain⟨e,hm⟩:=hold m oc hm;obtain⟨cs,el',h1,h2,h3,h4,h5⟩:=h.obj m oc hm;exact⟨cs,el',(hblk m oc hm e).trans h1,h2,h3,h4,fun k x v hx hv=>(h5 k x v hx hv).mono hle⟩
 ·intro m oc hm t ht;obtain⟨e,hm⟩:=hold m oc hm;obtain⟨cs,h1⟩:=h.typ m oc hm t ht;exact⟨cs,(hblk m oc hm e).trans h1⟩
theorem Wf.freeze (w:World) {a:Addr} (ha:wr a.block) (n:Nat):Wf wr w (w.freeze a n):=by
 unfold World.freeze;split
 ·exact Wf.refl _ _
 ·refine⟨rfl,rfl,rfl,by simp,fun b hb hn=> ?_⟩
  have hne:a.block≠b:=fun e=>hn (e▸ha)
  simp[Array.getElem?_modify,hne]
theorem ok_ust (h:HR C hf wr w) {pt it ty e:TypeId} (hp:P.underlying pt=some (.pointer e)) (hce:P.cellsOf e=1) {x y:Value} {vx vy:AV} (hx:AR C vx x) (hy:AR C vy y) {ao:AO} (ha:aUst hf e vx vy=some ao) (hpre:ao.pre):
  OpOk P C hf wr base nm (vS (Builtin.unsafeString_ #[pt,it] ty #[x,y])) w ao.v ao.up:=by
 unfold aUst at ha
 split at ha
 ·simp only[retO,Option.some.injEq]at ha;subst ha
  cases hx with|v hx=>cases hx;cases hy with|v hy=>cases hy;exact .val h (Lib.run_unsafeString_none w pt it ty none) (.v (.s []))
 ·rename_i n ver o len
  split at ha
  ·rename_i ob hn;simp only[Option.some.injEq]at ha;subst ha;obtain⟨p1,p2,p3,p4,p5,p6,p7⟩:=hpre;subst p2;have hv:=inv_p hx h hn p1;subst hv;have hv:=inv_i hy;subst hv;obtain⟨cs,el,g1,g2,g3,g4,g5⟩:=h.obj n ob hn;obtain⟨cs',g6⟩:=h.typ n ob hn e p3;rw[g1]at g6;injection g6 with g6;injection g6 with e1 e2 e3
   subst e1;subst e2;have hll:((ob.cells.take len.toNat).map AV.byte).length=len.toNat:=by simp;omega
   have hli:(len:Int)=(((ob.cells.take len.toNat).map AV.byte).length:Nat):=by rw[hll];omega
   have hne:(ob.cells.take len.toNat).map AV.byte≠[]:=by
    intro e0;rw[e0]at hll;simp at hll;omega
   have hrun:=Lib.run_unsafeString_row (P:=P) w pt it ty el hp hce (C.mu n) cs.size (by simp[World.shape?,g1]) ((ob.cells.take len.toNat).map AV.byte) hne (by rw[hll];omega) (by rw[hll];omega) (by
    intro j b hb;rw[add_none,cell_of_heap g1,Nat.zero_add];rw[List.getElem?_map,Option.map_eq_some_iff]at hb;obtain⟨a,ha,rfl⟩:=hb;rw[List.getElem?_take]at ha
    split at ha
    ·have hj:j<cs.size:=by have:=(List.getElem?_eq_some_iff.1 ha).1;omega
     have har:=g5 j a cs[j] ha (by simp[hj])
     have hby:=p7 a (by
      have:(ob.cells.take len.toNat)[j]?=some a:=by rw[List.getElem?_take,if_pos (by assumption)];exact ha
      exact List.mem_of_getElem? this)
     rw[←isByte_ok har hby];simp[hj]
    ·cases ha)
   rw[←hli]at hrun;refine⟨_,_,C.kill nm n, .inl (by simp only[vS,Sem.run_bind,hrun,Result.andThen,Sem.run_pure];rfl), .v (.s _),?_,C.le_kill nm n,fun _=>Iff.rfl,Wf.freeze w (h.wr n ob hn) _,fun _ _=>rfl, .one (.inl rfl) fun _ _=>rfl⟩
   rw[updF_one];refine h.kill nm hn fun b _ hb=> ?_
   unfold World.freeze;split
   ·rfl
   ·simp[Array.getElem?_modify,Ne.symm hb]
  ·cases ha
 ·cases ha
end
end Go.Dom
