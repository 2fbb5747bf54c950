/-
  Part of the proof, part Y6. Own work.
-/
import Derived.Test.YtmledjfbgjnknaaGreatDoorY5
set_option linter.all false
namespace Go.Dom
open Go.RowKit
section
variable {P:Program} {C:Cx} {hf:Nat→Option AObj} {wr:Nat→Prop} {base nm:Nat} {w:World} {tf:Nat→AV}
theorem src_ok (h:HR C hf wr w) {z:Nat} {vy:AV} {y:Value} (hy:AR C vy y) {ys:List AV} {k:Nat} {p:Prop} {r:List Nat} (hs:srcOf hf z vy=some (ys,k,p,r)) (hp:p):
  ∃news:List Value,(∀w',(Builtin.lenOf y).run P w'= .ok k w')∧(∀w' m,w'.heap=w.heap→m≤k→(Builtin.firstCells z m y).run P w'= .ok (news.take (m*z)).toArray w')∧RelL (AR C) ys news∧ys.length=k*z:=by
 have pure: ∀(l:List PV) (q:Option Addr) (len cap:Nat),PR C.rd (.sl l) (.slice q len cap)→(∀x∈l,x.cells.length=z)→
   ∃news:List Value,(∀w',(Builtin.lenOf (.slice q len cap)).run P w'= .ok l.length w')∧(∀w' m,w'.heap=w.heap→m≤l.length→(Builtin.firstCells z m (.slice q len cap)).run P w'= .ok (news.take (m*z)).toArray w')∧RelL (AR C) ((l.flatMap PV.cells).map .v) news∧((l.flatMap PV.cells).map AV.v).length=l.length*z:=by
  intro l q len cap hpr hz;have hfl:=flat_len hz
  cases hpr with
  |sl0=>exact⟨[],by simp[Builtin.lenOf],fun w' m _ hm=>by simp[Builtin.firstCells], .nil,by simp⟩
  |sle a cap=>exact⟨[],by simp[Builtin.lenOf],fun w' m _ hm=>by
    have:m=0:=by simpa using hm
    subst this;simp[Builtin.firstCells,loadCells,loadCellsFrom], .nil,by simp⟩
  |sl l z' vs bk of cap hc hz' h1 hl hr hrel=>
   have hrl:RelL (PR C.rd) (l.flatMap PV.cells) vs:=⟨hl,hrel⟩;refine⟨vs,by simp[Builtin.lenOf],fun w' m hw hm=> ?_,hrl.mapL _ fun x v hx=> .v hx,by simpa using hfl⟩
   have hw':HR C hf wr w':=h.world fun b _=>by rw[hw]
   have hmz:m*z≤vs.length:=by rw[←hl,hfl];exact Nat.mul_le_mul_right _ hm
   have hld:=run_loadPure (P:=P) hw' vs hr 0 (m*z) (by omega)
   simpa[Builtin.firstCells]using hld
 unfold srcOf at hs
 split at hs
 ·
  rename_i x;simp only[Option.some.injEq,Prod.mk.injEq]at hs;obtain⟨rfl,rfl,rfl,rfl⟩:=hs;have e:=inv_s hy;subst e;subst hp;have es:(ByteArray.mk x.toArray).size=x.length:=by simp[ByteArray.size]
  refine⟨x.map fun c=> .int .u8 c.toNat,fun w'=>by simp[Builtin.lenOf,es],fun w' m _ hm=> ?_,?_,by simp⟩
  ·simp only[Builtin.firstCells,Sem.run_pure,Nat.mul_one];congr 1;apply Array.ext';simp[List.map_take]
  ·refine⟨by simp,fun j a v ha hv=> ?_⟩
   simp only[List.getElem?_map,Option.map_eq_some_iff]at ha hv;obtain⟨c,hc,rfl⟩:=ha;obtain⟨d,hd,rfl⟩:=hv;rw[hc]at hd;injection hd with hd;subst hd
   exact .v (.i _ _)
 ·rename_i l;simp only[Option.some.injEq,Prod.mk.injEq]at hs;obtain⟨rfl,rfl,rfl,rfl⟩:=hs
  cases hy with
  |v hy=>
   have hy':=hy
   cases hy with
   |sl0=>exact pure _ _ _ _ hy' hp
   |sl=>exact pure _ _ _ _ hy' hp
   |sle=>exact pure _ _ _ _ hy' hp
 ·rename_i l;simp only[Option.some.injEq,Prod.mk.injEq]at hs;obtain⟨rfl,rfl,rfl,rfl⟩:=hs
  cases hy with
  |fs l a hy=>exact pure _ _ _ _ hy hp
 ·simp only[Option.some.injEq,Prod.mk.injEq]at hs;obtain⟨rfl,rfl,rfl,rfl⟩:=hs;cases hy;exact⟨[],by simp[Builtin.lenOf],fun w' m _ hm=>by simp[Builtin.firstCells], .nil,by simp⟩
 ·rename_i n ver o len z'
  split at hs
  ·rename_i ob hn;simp only[Option.some.injEq,Prod.mk.injEq]at hs;obtain⟨rfl,rfl,rfl,rfl⟩:=hs;obtain⟨hv,rfl,hlen⟩:=hp
   cases hy with
   |rs _ _ _ _ _ b o' cap hal hc ho hy=>
    have hcur:=(h.live n ob hn).2;obtain⟨-,h2⟩:=hy _ hcur;obtain⟨rfl,-⟩:=h2 hv.symm;have hlen2:((ob.cells.drop o).take (len*z')).length=len*z':=by simp;omega
    obtain⟨cs,el,g1,g2,g3,g4,g5⟩:=h.obj n ob hn;have hr:RelL (AR C) ob.cells (cs.toList.take ob.cells.length):=by
     refine⟨by simp;omega,fun k x v hx hv=>g5 k x v hx ?_⟩
     rw[List.getElem?_take]at hv
     split at hv
     ·simpa using hv
     ·cases hv
    refine⟨((cs.toList.take ob.cells.length).drop o).take (len*z'),by simp[Builtin.lenOf],fun w' m hw hm=> ?_,(hr.drop o).take _,hlen2⟩
    have hmz:m*z'≤len*z':=Nat.mul_le_mul_right _ hm;rcases ho with ho|ho
    ·have:m=0:=by omega
     subst this;simp[Builtin.firstCells,loadCells,loadCellsFrom]
    ·subst ho;have hl3:((((cs.toList.take ob.cells.length).drop o').take (len*z')).take (m*z')).length=m*z':=by simp;omega
     have:=run_loadCells_list (P:=P) w' ⟨C.mu n,o',none⟩ ((((cs.toList.take ob.cells.length).drop o').take (len*z')).take (m*z')) (by
      intro j v hv;have g1':w'.heap[C.mu n]?=some (.cells cs el (0,0)):=by rw[hw];exact g1
      rw[add_none,cell_of_heap g1'];rw[List.getElem?_take]at hv
      split at hv
      ·rw[List.getElem?_take]at hv
       split at hv
       ·rw[List.getElem?_drop,List.getElem?_take]at hv
        split at hv
        ·simpa using hv
        ·cases hv
       ·cases hv
      ·cases hv)
     rw[hl3]at this;simpa[Builtin.firstCells]using this
  ·cases hs
 ·cases hs
theorem run_app_room {t u ty e:TypeId} {i:TypeInfo} (ht:P.underlying t=some (.slice e)) (hi:P.info? e=some i) (hu:P.underlying u=some .string∨ ∃e',P.underlying u=some (.slice e')) {y:Value} {k:Nat} {news:List Value}
  (hlen: ∀w',(Builtin.lenOf y).run P w'= .ok k w') (hfc: ∀w' m,w'.heap=w.heap→m≤k→(Builtin.firstCells i.size m y).run P w'= .ok (news.take (m*i.size)).toArray w') (hnl:news.length=k*i.size) (h1: ∀v∈news,v.oneCell'=true)
  {g sLen sCap:Nat} {cur:Array Value} {el:TypeId} (hg:w.heap[g]?=some (.cells cur el (0,0))) (hroom:sLen+k≤sCap) (hfit:sLen*i.size+news.length≤cur.size):
  (Builtin.append_ #[t,u] ty #[.slice (some ⟨g,0,none⟩) sLen sCap,y]).run P w=
   .ok (.slice (some ⟨g,0,none⟩) (sLen+k) sCap) (w.setRow g (cur.toList.take (sLen*i.size)++news++cur.toList.drop (sLen*i.size+news.length)).toArray):=by
 have hf:=hfc w k rfl (Nat.le_refl _);rw[List.take_of_length_le (by omega)]at hf
 have hst:=run_storeCells_at P g (sLen*i.size) el news 0 cur w hg (by simpa using hfit) h1
 simp only[Nat.add_zero]at hst;have hz:(match (#[t,u])[1]? with|some xType=>(do pure ((←underlying xType) matches .int _):Sem Bool)|none=>pure false).run P w= .ok false w:=by
  rcases hu with hu|⟨e',hu⟩<;>simp[run_underlying hu]
 rcases hu with hu|⟨e',hu⟩<;>simp[Builtin.append_,run_underlying ht,run_underlying hu,sizeOf,typeInfo,hi,hlen,hroom,hf,add_none,hst]
theorem run_app_grow {t u ty e:TypeId} {i:TypeInfo} {z:Value} (ht:P.underlying t=some (.slice e)) (hi:P.info? e=some i) (hz:i.zero=some z) (hu:P.underlying u=some .string∨ ∃e',P.underlying u=some (.slice e')) {y:Value} {k:Nat} {news olds:List Value}
  (hlen: ∀w',(Builtin.lenOf y).run P w'= .ok k w') (hfc: ∀w' m,w'.heap=w.heap→m≤k→(Builtin.firstCells i.size m y).run P w'= .ok (news.take (m*i.size)).toArray w') (hnl:news.length=k*i.size)
  {q:Option Addr} {sLen sCap:Nat} (hold: ∀w',w'.heap=w.heap→(Builtin.firstCells i.size sLen (.slice q sLen sCap)).run P w'= .ok olds.toArray w') (hg:sCap<sLen+k) (h63:sLen+k≤140737488355328) (hfit:(sLen+k)*i.bytes≤140737488355328):
  (Builtin.append_ #[t,u] ty #[.slice q sLen sCap,y]).run P w=
   .ok (.slice (some ⟨w.heap.size,0,none⟩) (sLen+k) (grownCap w (sLen+k) sCap e)) (w.drew.alloc (.cells (olds.toArray++news.toArray++Builtin.zeroCells z.cells (grownCap w (sLen+k) sCap e-(sLen+k))) e)):=by
 have hf:=hfc w.drew k rfl (Nat.le_refl _);rw[List.take_of_length_le (by omega)]at hf
 have ho:=hold w.drew rfl;have hn: ¬(sLen+k≤sCap):=by omega
 have h63': ¬(9223372036854775807<((sLen:Int)+(k:Int))):=by omega
 have h48:=growslice_fits hg hfit;have h48': ¬(281474976710656<Builtin.nextslicecap (sLen+k) sCap*i.bytes):=by omega
 rcases hu with hu|⟨e',hu⟩
 all_goals
  simp[Builtin.append_,run_underlying ht,run_underlying hu,sizeOf,typeInfo,zeroValue,hi,hz,hlen,hn,h63',h48',Question.forced,hf,ho,newRow,grownCap];congr 2;apply Array.ext';simp[List.append_assoc]
theorem grownCap_size (need old:Nat) (e:TypeId):need≤grownCap w need old e:=grownCap_ge w need old e
theorem grown_size (olds news:List Value) (z:Value) {sz len k cap:Nat} (ho:olds.length=len*sz) (hn:news.length=k*sz) (hz:z.cells.size=sz) (hc:len+k≤cap):
  (olds.toArray++news.toArray++Builtin.zeroCells z.cells (cap-(len+k))).size=cap*sz:=by
 rw[Array.size_append,Array.size_append,size_zeroCells,hz];simp only[List.size_toArray,ho,hn];rw[←Nat.add_mul,←Nat.add_mul];congr 1;omega
theorem news_one {ys:List AV} {news:List Value} (hr:RelL (AR C) ys news) (h1: ∀y∈ys,y.one=true): ∀v∈news,v.oneCell'=true:=by
 intro v hv;obtain⟨k,hk,rfl⟩:=List.getElem_of_mem hv;have hk':k<ys.length:=by have:=hr.1;omega
 exact(hr.2 k ys[k] news[k] (by simp[hk']) (by simp[hk])).oneCell (h1 _ (List.getElem_mem hk'))
theorem app_cells {cells ys:List AV} {olds news:List Value} {rest:Array Value} (hr:RelL (AR C) cells olds) (hy:RelL (AR C) ys news):
  ∀(k:Nat) (x:AV) (v:Value),(cells++ys)[k]?=some x→(olds.toArray++news.toArray++rest)[k]?=some v→AR C x v:=by
 intro k x v hx hv;have hr2:=hr.append hy;have hk:k<(cells++ys).length:=(List.getElem?_eq_some_iff.1 hx).1;rw[Array.getElem?_append_left (by simp[←hr.1,←hy.1];simpa using hk)]at hv
 exact hr2.2 k x v hx (by simpa using hv)
theorem ok_app_new (h:HR C hf wr w) (hnm: ¬C.al nm) (hwr: ∀b,base≤b→wr b) (hbase:base≤w.heap.size) {t u ty e:TypeId} {i:TypeInfo} {z:Value} (ht:P.underlying t=some (.slice e)) (hi:P.info? e=some i) (hz:i.zero=some z) (hzs:z.cells.size=i.size)
  (hu:P.underlying u=some .string∨ ∃e',P.underlying u=some (.slice e')) {vy:AV} {y:Value} (hy:AR C vy y) {ys:List AV} {k:Nat} {p:Prop} {r:List Nat} (hs:srcOf hf i.size vy=some (ys,k,p,r)) (hp:p)
  {q:Option Addr} {len:Nat} {cells:List AV} {olds:List Value} (hold: ∀w',w'.heap=w.heap→(Builtin.firstCells i.size len (.slice q len len)).run P w'= .ok olds.toArray w') (hr:RelL (AR C) cells olds) (hcl:cells.length=len*i.size)
  (hk:k≠0) (hby:(len+k)*i.bytes≤140737488355328) (hc:len+k≤140737488355328):
  OpOk P C hf wr base nm (vS (Builtin.append_ #[t,u] ty #[.slice q len len,y])) w (.rs nm 0 0 (len+k) i.size) [(nm,some ⟨0,cells++ys,true,some e⟩)]:=by
 obtain⟨news,hlen,hfc,hry,hyl⟩:=src_ok (P:=P) h hy hs hp;have hrun:=run_app_grow (P:=P) (w:=w) (ty:=ty) ht hi hz hu hlen hfc (by rw[←hry.1,hyl]) hold (by omega) hc hby
 have hge:=grownCap_size (w:=w) (len+k) len e;have hsz:=grown_size olds news z (by rw[←hr.1,hcl]) (by rw[←hry.1,hyl]) hzs hge
 refine ok_new h hnm hwr hbase (.inr rfl) (vs:=olds.toArray++news.toArray++Builtin.zeroCells z.cells (grownCap w (len+k) len e-(len+k))) (el:=e) (val:= .slice (some ⟨w.heap.size,0,none⟩) (len+k) (grownCap w (len+k) len e)) (.inr (by simp only[vS,Sem.run_bind,hrun,Result.andThen,Sem.run_pure])) ?_ (by simp) (app_cells hr hry) ?_
 ·rw[hsz,List.length_append,hcl,hyl,←Nat.add_mul];exact Nat.mul_le_mul_right _ hge
 ·refine .rs nm 0 0 (len+k) i.size _ 0 _ (.inr rfl) hge (.inr rfl) fun cc hcc=> ?_
  simp only[Cx.newObj,if_true]at hcc⊢;exact⟨Nat.zero_le _,fun _=>⟨trivial,by rw[hsz];omega⟩⟩
theorem ok_app_rs (h:HR C hf wr w) (hwr: ∀b,base≤b→wr b) (hbase:base≤w.heap.size) {t u ty e:TypeId} {i:TypeInfo} {z:Value} (ht:P.underlying t=some (.slice e)) (hi:P.info? e=some i) (hz:i.zero=some z) (hzs:z.cells.size=i.size) (hpos:0<i.size)
  (hu:P.underlying u=some .string∨ ∃e',P.underlying u=some (.slice e')) {vy:AV} {y:Value} (hy:AR C vy y) {ys:List AV} {k:Nat} {p:Prop} {r:List Nat} (hs:srcOf hf i.size vy=some (ys,k,p,r)) (hp:p) (h1: ∀y∈ys,y.one=true)
  {n ver len:Nat} {x:Value} (hx:AR C (.rs n ver 0 len i.size) x) {ob:AObj} (hn:hf n=some ob) (hver:ob.ver=ver) (hlen':len*i.size≤ob.cells.length) (hby:(len+k)*i.bytes≤140737488355328) (hc:len+k≤140737488355328):
  OpOk P C hf wr base nm (vS (Builtin.append_ #[t,u] ty #[x,y])) w (.rs n (ver+1) 0 (len+k) i.size) [(n,some ⟨ver+1,ob.cells.take (len*i.size)++ys,true,if ob.el=some e then some e else none⟩)]:=by
 obtain⟨news,hlen,hfc,hry,hyl⟩:=src_ok (P:=P) h hy hs hp;have hnews:=news_one hry h1;have hcur:=(h.live n ob hn).2;have hal:=(h.live n ob hn).1;obtain⟨cs,el,g1,g2,g3,g4,g5⟩:=h.obj n ob hn;subst hver
 cases hx with
 |rs _ _ _ _ _ b o' cap _ hcap ho hx=>
  obtain⟨-,hx2⟩:=hx _ hcur;obtain⟨rfl,hsz⟩:=hx2 rfl;have hrc:RelL (AR C) (ob.cells.take (len*i.size)) (cs.toList.take (len*i.size)):=by
   refine⟨by simp;omega,fun j a v ha hv=> ?_⟩
   rw[List.getElem?_take]at ha hv
   split at ha
   ·rename_i hj;rw[if_pos hj]at hv;exact g5 j a v ha (by simpa using hv)
   ·cases ha
  have hnl:news.length=k*i.size:=by rw[←hry.1,hyl]
  have htl:(ob.cells.take (len*i.size)).length=len*i.size:=by simp;omega
  by_cases hroom:len+k≤cap
  ·
   have hoz:cap=0∨o'=0:=ho
   by_cases hc0:cap=0
   ·
    have hl0:len=0:=by omega
    have hk0:k=0:=by omega
    subst hl0;subst hk0;subst hc0;have hys:ys=[]:=List.eq_nil_of_length_eq_zero (by rw[hyl];omega)
    subst hys;have hnn:news=[]:=List.eq_nil_of_length_eq_zero (by rw[hnl];omega)
    subst hnn;have hf0:=hfc w 0 rfl (Nat.le_refl _);have hrun:(Builtin.append_ #[t,u] ty #[.slice (some ⟨C.mu n,o',none⟩) 0 0,y]).run P w= .ok (.slice (some ⟨C.mu n,o',none⟩) 0 0) w:=by
     rcases hu with hu|⟨e',hu⟩<;>simp[Builtin.append_,run_underlying ht,run_underlying hu,sizeOf,typeInfo,hi,hlen,hf0,storeCells]
    refine⟨.slice (some ⟨C.mu n,o',none⟩) 0 0,w,C.bump nm n (ob.ver+1), .inl (by simp only[vS,Sem.run_bind,hrun,Result.andThen,Sem.run_pure]),?_,?_,Cx.le_bump nm hcur (by omega),fun _=>Iff.rfl,Wf.refl _ _,fun _ _=>rfl, .one (.inr (.inl ⟨_,hn,rfl⟩)) fun _ _=>rfl⟩
    ·refine .rs n _ 0 _ _ _ o' 0 (.inl hal) (by omega) (.inl rfl) fun cc hcc=> ?_
     simp only[Cx.bump,if_true,Option.some.injEq]at hcc⊢;exact⟨by omega,fun _=>⟨trivial,by omega⟩⟩
    ·rw[updF_one];exact h.write nm hn (by omega) _ true cs el _ (by split;(right;simp_all);(left;rfl)) ⟨_,g1⟩ g1 g2 (by simp) (by simp) (fun _ _ _=>rfl) (by intro j a v ha;simp at ha)
   ·have:o'=0:=by rcases hoz with h|h<;>omega
    subst this;have hfit:len*i.size+news.length≤cs.size:=by
     rw[hnl,←Nat.add_mul,g2];have:=Nat.mul_le_mul_right i.size hroom;omega
    have hrun:=run_app_room (P:=P) (w:=w) (ty:=ty) ht hi hu hlen hfc hnl hnews g1 hroom hfit
    let cs':Array Value:=(cs.toList.take (len*i.size)++news++cs.toList.drop (len*i.size+news.length)).toArray
    have hsz':cs'.size=cs.size:=by simp[cs'];omega
    obtain⟨k1,k2⟩:=setRow_heap (cs':=cs') g1;refine⟨.slice (some ⟨C.mu n,0,none⟩) (len+k) cap,w.setRow (C.mu n) cs',C.bump nm n (ob.ver+1), .inl (by simp only[vS,Sem.run_bind,hrun,Result.andThen,Sem.run_pure];rfl),?_,?_,Cx.le_bump nm hcur (by omega),fun _=>Iff.rfl,Wf.setRow _ (h.wr n ob hn),fun _ _=>rfl, .one (.inr (.inl ⟨_,hn,rfl⟩)) fun _ _=>rfl⟩
    ·refine .rs n _ 0 _ _ _ 0 cap (.inl hal) hroom (.inr rfl) fun cc hcc=> ?_
     simp only[Cx.bump,if_true,Option.some.injEq]at hcc⊢;exact⟨by omega,fun _=>⟨trivial,hsz⟩⟩
    ·rw[updF_one];refine h.write nm hn (by omega) _ true cs' el _ (by split;(right;simp_all);(left;rfl)) ⟨_,g1⟩ k1 (by rw[hsz',g2]) ?_ (by simp) (fun b _ hb=>k2 b hb) ?_
     ·rw[hsz',List.length_append,htl,hry.1];exact hfit
     ·intro j a v ha hv;have hv':(cs.toList.take (len*i.size)++news++cs.toList.drop (len*i.size+news.length))[j]?=some v:=by simpa[cs']using hv
      have hj:j<(ob.cells.take (len*i.size)++ys).length:=(List.getElem?_eq_some_iff.1 ha).1;have hj2:j<(cs.toList.take (len*i.size)++news).length:=by
       have e1:=hrc.1;have e2:=hry.1;rw[List.length_append]at hj⊢;omega
      rw[List.getElem?_append_left hj2]at hv';exact(hrc.append hry).2 j a v ha hv'
  ·
   have hold: ∀w',w'.heap=w.heap→(Builtin.firstCells i.size len (.slice (some ⟨C.mu n,o',none⟩) len cap)).run P w'= .ok (cs.toList.take (len*i.size)).toArray w':=by
    intro w' hw;rcases ho with ho|ho
    ·have hl0:len=0:=by omega
     subst hl0;simp[Builtin.firstCells,loadCells,loadCellsFrom]
    ·subst ho;have hl3:(cs.toList.take (len*i.size)).length=len*i.size:=by simp;omega
     have:=run_loadCells_list (P:=P) w' ⟨C.mu n,0,none⟩ (cs.toList.take (len*i.size)) (by
      intro j v hv;have g1':w'.heap[C.mu n]?=some (.cells cs el (0,0)):=by rw[hw];exact g1
      rw[add_none,cell_of_heap g1',Nat.zero_add];rw[List.getElem?_take]at hv
      split at hv
      ·simpa using hv
      ·cases hv)
     rw[hl3]at this;simpa[Builtin.firstCells]using this
   have hrun:=run_app_grow (P:=P) (w:=w) (ty:=ty) ht hi hz hu hlen hfc hnl hold (by omega) hc hby
   have hge:=grownCap_size (w:=w) (len+k) cap e;have hszn:=grown_size (cs.toList.take (len*i.size)) news z (len:=len) (by simp;omega) hnl hzs hge
   refine⟨.slice (some ⟨w.heap.size,0,none⟩) (len+k) (grownCap w (len+k) cap e),_,C.move w nm n (ob.ver+1) (grownCap w (len+k) cap e*i.size), .inl (by simp only[vS,Sem.run_bind,hrun,Result.andThen,Sem.run_pure];rfl),?_,?_,Cx.le_move w nm _ hcur (by omega),fun _=>Iff.rfl,(Wf.drew _ _).trans (Wf.alloc _ _ _),fun _ _=>rfl, .one (.inr (.inr (by simpa[Cx.move]using hbase))) fun k e=>by simp[Cx.move,e]⟩
   ·refine .rs n _ 0 _ _ _ 0 _ (.inl hal) hge (.inr rfl) fun cc hcc=> ?_
    simp only[Cx.move,if_true,Option.some.injEq]at hcc⊢;exact⟨by omega,fun _=>⟨trivial,by omega⟩⟩
   ·rw[updF_one];have:=(h.world (w':=w.drew) fun _ _=>rfl).move nm hn (ver:=ob.ver+1) (by omega) (hwr _ hbase) (ob.cells.take (len*i.size)++ys) true ((cs.toList.take (len*i.size)).toArray++news.toArray++Builtin.zeroCells z.cells (grownCap w (len+k) cap e-(len+k))) e (if ob.el=some e then some e else none) (by split;(right;rfl);(left;rfl))
     (by rw[hszn,List.length_append,htl,hyl,←Nat.add_mul];exact Nat.mul_le_mul_right _ hge) (by simp) (app_cells hrc hry)
    rw[hszn]at this;exact this
end
end Go.Dom
