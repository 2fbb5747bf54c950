/- Part of the proof. -/
import Derived.Test.YtipbhapfacgabaaGreatDoorUH4
import Derived.Lib.ConvBytes
set_option linter.all false
namespace Go.Dom
open Go.RowKit
section
variable {P:Program} {C:Cx} {hf:Nat->Option aC} {wr:Nat->Prop} {base nm:Nat} {w:World} {tf:Nat->AV}
variable {e t ty u:TypeId} {i:TypeInfo} {k len sCap sLen:Nat} {news olds:List Value} {r:List Nat} {y z:Value} {ys:List AV}
theorem rN (h:HR C hf wr w) {z:Nat} {vy:AV} (hy:AR C vy y) {p:Prop} (hs:qc hf z vy=some (ys,k,p,r)) (hp:p):
  ∃news:List Value,(∀w',(Builtin.lenOf y).run P w'= .ok k w')/\(∀w' m,w'.heap=w.heap->m<=k->(Builtin.firstCells z m y).run P w'= .ok (news.take (m*z)).toArray w')/\bC (AR C) ys news/\ys.length=k*z:=by
 have pure: ∀(l:List PV) (q:Option Addr) (len cap:Nat),PR C.rd (.sl l) (.slice q len cap)->(∀x∈l,x.cells.length=z)->
   ∃news:List Value,(∀w',(Builtin.lenOf (.slice q len cap)).run P w'= .ok l.length w')/\(∀w' m,w'.heap=w.heap->m<=l.length->(Builtin.firstCells z m (.slice q len cap)).run P w'= .ok (news.take (m*z)).toArray w')/\bC (AR C) ((l.flatMap PV.cells).map .v) news/\((l.flatMap PV.cells).map AV.v).length=l.length*z:=by
  intro l q len cap hpr hz;have hfl:=yd hz
  cases hpr with
  |sl0=>exact⟨[],by simp[Builtin.lenOf],fun w' m _ hm=>by simp[Builtin.firstCells], .nil,by simp⟩
  |sle a cap=>exact⟨[],by simp[Builtin.lenOf],fun w' m _ hm=>by
    have:m=0:=by simpa using hm
    subst this;simp[Builtin.firstCells,loadCells,loadCellsFrom], .nil,by simp⟩
  |sl l z' vs bk of cap hc hz' h1 hl hr hrel=>
   have hrl:bC (PR C.rd) (l.flatMap PV.cells) vs:=⟨hl,hrel⟩;refine⟨vs,by simp[Builtin.lenOf],fun w' m hw hm=> ?_,hrl.U3 _ fun x v hx=> .v hx,by simpa using hfl⟩
   have hw':HR C hf wr w':=h.world fun b _=>by rw[hw]
   have hmz:m*z<=vs.length:=by rw[<-hl,hfl];exact cK _ hm
   have hld:=oU (P:=P) hw' vs hr 0 (m*z) (by omega)
   simpa[Builtin.firstCells]using hld
 unfold qc at hs
 split at hs
 ·
  rename_i x;simp only[ai,dJ]at hs;obtain⟨rfl,rfl,rfl,rfl⟩:=hs;have e:=yq hy;subst e;subst hp;have es:(ByteArray.mk x.toArray).size=x.length:=by simp[ByteArray.size]
  refine⟨x.map fun c=> .int .u8 c.toNat,fun w'=>by simp[Builtin.lenOf,es],fun w' m _ hm=> ?_,?_,by simp⟩
  ·simp only[Builtin.firstCells,Sem.run_pure,eH];congr 1;apply fo;simp[xu]
  ·refine⟨by simp,fun j a v ha hv=> ?_⟩
   simp only[gY,dM]at ha hv;obtain⟨c,hc,rfl⟩:=ha;obtain⟨d,hd,rfl⟩:=hv;rw[hc]at hd;injection hd with hd;subst hd
   exact .v (.i _ _)
 ·rename_i l;simp only[ai,dJ]at hs;obtain⟨rfl,rfl,rfl,rfl⟩:=hs
  cases hy with
  |v hy=>
   have hy':=hy
   cases hy with
   |sl0=>exact pure _ _ _ _ hy' hp
   |sl=>exact pure _ _ _ _ hy' hp
   |sle=>exact pure _ _ _ _ hy' hp
 ·rename_i l;simp only[ai,dJ]at hs;obtain⟨rfl,rfl,rfl,rfl⟩:=hs
  cases hy with
  |fs l a hy=>exact pure _ _ _ _ hy hp
 ·simp only[ai,dJ]at hs;obtain⟨rfl,rfl,rfl,rfl⟩:=hs;cases hy;exact⟨[],by simp[Builtin.lenOf],fun w' m _ hm=>by simp[Builtin.firstCells], .nil,by simp⟩
 ·rename_i n ver o len z'
  split at hs
  ·rename_i ob hn;simp only[ai,dJ]at hs;obtain⟨rfl,rfl,rfl,rfl⟩:=hs;obtain⟨hv,rfl,hlen⟩:=hp
   cases hy with
   |rs _ _ _ _ _ b o' cap hal hm hc ho hy=>
    have hcur:=(h.live n ob hn).2;obtain⟨-,h2⟩:=hy _ hcur;obtain⟨rfl,-⟩:=h2 hv.symm;have hlen2:((ob.cells.drop o).take (len*z')).length=len*z':=by simp;omega
    obtain⟨cs,el,g1,g2,g3,g4,g5⟩:=h.obj n ob hn hm;have hr:bC (AR C) ob.cells (cs.toList.take ob.cells.length):=by
     refine⟨by simp;omega,fun k x v hx hv=>g5 k x v hx ?_⟩
     rw[fU]at hv
     split at hv
     ·simpa using hv
     ·cases hv
    refine⟨((cs.toList.take ob.cells.length).drop o).take (len*z'),by simp[Builtin.lenOf],fun w' m hw hm=> ?_,(hr.drop o).take _,hlen2⟩
    have hmz:m*z'<=len*z':=cK _ hm;rcases ho with ho|ho
    ·have:m=0:=by omega
     subst this;simp[Builtin.firstCells,loadCells,loadCellsFrom]
    ·subst ho;have hl3:((((cs.toList.take ob.cells.length).drop o').take (len*z')).take (m*z')).length=m*z':=by simp;omega
     have:=run_loadCells_list (P:=P) w' ⟨C.mu n,o',none⟩ ((((cs.toList.take ob.cells.length).drop o').take (len*z')).take (m*z')) (by
      intro j v hv;have g1':w'.heap[C.mu n]?=some (.cells cs el (0,0)):=by rw[hw];exact g1
      rw[fI,cell_of_heap g1'];rw[fU]at hv
      split at hv
      ·rw[fU]at hv
       split at hv
       ·rw[kM,fU]at hv
        split at hv
        ·simpa using hv
        ·cases hv
       ·cases hv
      ·cases hv)
     rw[hl3]at this;simpa[Builtin.firstCells]using this
  ·cases hs
 ·cases hs
theorem CK (ht:P.underlying t=some (.slice e)) (hi:P.info? e=some i) (hu:P.underlying u=some .string\/ ∃e',P.underlying u=some (.slice e'))
  (hlen: ∀w',(Builtin.lenOf y).run P w'= .ok k w') (hfc: ∀w' m,w'.heap=w.heap->m<=k->(Builtin.firstCells i.size m y).run P w'= .ok (news.take (m*i.size)).toArray w') (hnl:news.length=k*i.size) (h1: ∀v∈news,v.oneCell'=true)
  {g:Nat} {cur:Array Value} {el:TypeId} (hg:w.heap[g]?=some (.cells cur el (0,0))) (hroom:sLen+k<=sCap) (hfit:sLen*i.size+news.length<=cur.size):
  (Builtin.append_ #[t,u] ty #[.slice (some ⟨g,0,none⟩) sLen sCap,y]).run P w=
   .ok (.slice (some ⟨g,0,none⟩) (sLen+k) sCap) (w.setRow g (cur.toList.take (sLen*i.size)++news++cur.toList.drop (sLen*i.size+news.length)).toArray):=by
 have hf:=hfc w k rfl (aB _);rw[dc (by omega)]at hf
 have hst:=run_storeCells_at P g (sLen*i.size) el news 0 cur w hg (by simpa using hfit) h1
 simp only[Nat.add_zero]at hst;have hz:(match (#[t,u])[1]? with|some xType=>(do pure ((<-underlying xType) matches .int _):Sem Bool)|none=>pure false).run P w= .ok false w:=by
  rcases hu with hu|⟨e',hu⟩<;>simp[run_underlying hu]
 rcases hu with hu|⟨e',hu⟩<;>simp[Builtin.append_,run_underlying ht,run_underlying hu,sizeOf,typeInfo,hi,hlen,hroom,hf,fI,hst]
theorem sU (ht:P.underlying t=some (.slice e)) (hi:P.info? e=some i) (hz:i.zero=some z) (hu:P.underlying u=some .string\/ ∃e',P.underlying u=some (.slice e'))
  (hlen: ∀w',(Builtin.lenOf y).run P w'= .ok k w') (hfc: ∀w' m,w'.heap=w.heap->m<=k->(Builtin.firstCells i.size m y).run P w'= .ok (news.take (m*i.size)).toArray w') (hnl:news.length=k*i.size)
  {q:Option Addr} (hold: ∀w',w'.heap=w.heap->(Builtin.firstCells i.size sLen (.slice q sLen sCap)).run P w'= .ok olds.toArray w') (hg:sCap<sLen+k) (h63:sLen+k<=140737488355328) (hfit:(sLen+k)*i.bytes<=140737488355328):
  (Builtin.append_ #[t,u] ty #[.slice q sLen sCap,y]).run P w=
   .ok (.slice (some ⟨w.heap.size,0,none⟩) (sLen+k) (grownCap w (sLen+k) sCap e)) (w.drew.alloc (.cells (olds.toArray++news.toArray++Builtin.zeroCells z.cells (grownCap w (sLen+k) sCap e-(sLen+k))) e)):=by
 have hf:=hfc w.drew k rfl (aB _);rw[dc (by omega)]at hf
 have ho:=hold w.drew rfl;have hn: ¬(sLen+k<=sCap):=by omega
 have h63': ¬(9223372036854775807<((sLen:Int)+(k:Int))):=by omega
 have h48:=growslice_fits hg hfit;have h48': ¬(281474976710656<Builtin.nextslicecap (sLen+k) sCap*i.bytes):=by omega
 rcases hu with hu|⟨e',hu⟩
 all_goals
  simp[Builtin.append_,run_underlying ht,run_underlying hu,sizeOf,typeInfo,zeroValue,hi,hz,hlen,hn,h63',h48',Question.forced,hf,ho,newRow,grownCap];congr 2;apply fo;simp[gZ]
theorem qV (need old:Nat) (e:TypeId):need<=grownCap w need old e:=grownCap_ge w need old e
theorem ym (olds news:List Value) (z:Value) {sz cap:Nat} (ho:olds.length=len*sz) (hn:news.length=k*sz) (hz:z.cells.size=sz) (hc:len+k<=cap):
  (olds.toArray++news.toArray++Builtin.zeroCells z.cells (cap-(len+k))).size=cap*sz:=by
 rw[Array.size_append,Array.size_append,size_zeroCells,hz];simp only[kL,ho,hn];rw[<-cO,<-cO];congr 1;omega
theorem yP (hr:bC (AR C) ys news) (h1: ∀y∈ys,y.one=true): ∀v∈news,v.oneCell'=true:=by
 intro v hv;obtain⟨k,hk,rfl⟩:=iv hv;have hk':k<ys.length:=by have:=hr.1;omega
 exact(hr.2 k ys[k] news[k] (by simp[hk']) (by simp[hk])).sL (h1 _ (jQ hk'))
theorem Ax {cells ys:List AV} {rest:Array Value} (hr:bC (AR C) cells olds) (hy:bC (AR C) ys news):
  ∀(k:Nat) (x:AV) (v:Value),(cells++ys)[k]?=some x->(olds.toArray++news.toArray++rest)[k]?=some v->AR C x v:=by
 intro k x v hx hv;have hr2:=hr.append hy;have hk:k<(cells++ys).length:=(cv.1 hx).1;rw[tH (by simp[<-hr.1,<-hy.1];simpa using hk)]at hv
 exact hr2.2 k x v hx (by simpa using hv)
theorem yV (h:HR C hf wr w) (hnm: ¬C.al nm) (hwr: ∀b,base<=b->wr b) (hbase:base<=w.heap.size) (ht:P.underlying t=some (.slice e)) (hi:P.info? e=some i) (hz:i.zero=some z) (hzs:z.cells.size=i.size)
  (hu:P.underlying u=some .string\/ ∃e',P.underlying u=some (.slice e')) {vy:AV} (hy:AR C vy y) {p:Prop} (hs:qc hf i.size vy=some (ys,k,p,r)) (hp:p)
  {q:Option Addr} {cells:List AV} (hold: ∀w',w'.heap=w.heap->(Builtin.firstCells i.size len (.slice q len len)).run P w'= .ok olds.toArray w') (hr:bC (AR C) cells olds) (hcl:cells.length=len*i.size)
  (hk:k≠0) (hby:(len+k)*i.bytes<=140737488355328) (hc:len+k<=140737488355328):
  dI P C hf wr base nm (vS (Builtin.append_ #[t,u] ty #[.slice q len len,y])) w (.rs nm 0 0 (len+k) i.size) [(nm,some ⟨0,cells++ys,true,some e⟩)]:=by
 obtain⟨news,hlen,hfc,hry,hyl⟩:=rN (P:=P) h hy hs hp;have hrun:=sU (P:=P) (w:=w) (ty:=ty) ht hi hz hu hlen hfc (by rw[<-hry.1,hyl]) hold (by omega) hc hby
 have hge:=qV (w:=w) (len+k) len e;have hsz:=ym olds news z (by rw[<-hr.1,hcl]) (by rw[<-hry.1,hyl]) hzs hge
 refine yY h hnm hwr hbase (.inr rfl) (vs:=olds.toArray++news.toArray++Builtin.zeroCells z.cells (grownCap w (len+k) len e-(len+k))) (el:=e) (val:= .slice (some ⟨w.heap.size,0,none⟩) (len+k) (grownCap w (len+k) len e)) (.inr (by simp only[vS,bT,hrun,Result.andThen,Sem.run_pure])) ?_ (by simp) (Ax hr hry) ?_
 ·rw[hsz,bU,hcl,hyl,<-cO];exact cK _ hge
 ·refine .rs nm 0 0 (len+k) i.size _ 0 _ (.inr rfl) (by simp[Cx.newObj]) hge (.inr rfl) fun cc hcc=> ?_
  simp only[Cx.newObj,aA]at hcc⊢;exact⟨aT _,fun _=>⟨trivial,by rw[hsz];omega⟩⟩
theorem Kr (h:HR C hf wr w) (hwr: ∀b,base<=b->wr b) (hbase:base<=w.heap.size) (ht:P.underlying t=some (.slice e)) (hi:P.info? e=some i) (hz:i.zero=some z) (hzs:z.cells.size=i.size) (hpos:0<i.size)
  (hu:P.underlying u=some .string\/ ∃e',P.underlying u=some (.slice e')) {vy:AV} (hy:AR C vy y) {p:Prop} (hs:qc hf i.size vy=some (ys,k,p,r)) (hp:p) (h1: ∀y∈ys,y.one=true)
  {n ver len:Nat} {x:Value} (hx:AR C (.rs n ver 0 len i.size) x) {ob:aC} (hn:hf n=some ob) (hver:ob.ver=ver) (hlen':len*i.size<=ob.cells.length) (hby:(len+k)*i.bytes<=140737488355328) (hc:len+k<=140737488355328):
  dI P C hf wr base nm (vS (Builtin.append_ #[t,u] ty #[x,y])) w (.rs n (ver+1) 0 (len+k) i.size) [(n,some ⟨ver+1,ob.cells.take (len*i.size)++ys,true,if ob.el=some e then some e else none⟩)]:=by
 obtain⟨news,hlen,hfc,hry,hyl⟩:=rN (P:=P) h hy hs hp;have hnews:=yP hry h1;have hcur:=(h.live n ob hn).2;have hal:=(h.live n ob hn).1;have hm:=NC hx;obtain⟨cs,el,g1,g2,g3,g4,g5⟩:=h.obj n ob hn hm;subst hver
 cases hx with
 |rs _ _ _ _ _ b o' cap _ _ hcap ho hx=>
  obtain⟨-,hx2⟩:=hx _ hcur;obtain⟨rfl,hsz⟩:=hx2 rfl;have hrc:bC (AR C) (ob.cells.take (len*i.size)) (cs.toList.take (len*i.size)):=by
   refine⟨by simp;omega,fun j a v ha hv=> ?_⟩
   rw[fU]at ha hv
   split at ha
   ·rename_i hj;rw[ah hj]at hv;exact g5 j a v ha (by simpa using hv)
   ·cases ha
  have hnl:news.length=k*i.size:=by rw[<-hry.1,hyl]
  have htl:(ob.cells.take (len*i.size)).length=len*i.size:=by simp;omega
  by_cases hroom:len+k<=cap
  ·
   have hoz:cap=0\/o'=0:=ho
   by_cases hc0:cap=0
   ·
    have hl0:len=0:=by omega
    have hk0:k=0:=by omega
    subst hl0;subst hk0;subst hc0;have hys:ys=[]:=kD (by rw[hyl];omega)
    subst hys;have hnn:news=[]:=kD (by rw[hnl];omega)
    subst hnn;have hf0:=hfc w 0 rfl (aB _);have hrun:(Builtin.append_ #[t,u] ty #[.slice (some ⟨C.mu n,o',none⟩) 0 0,y]).run P w= .ok (.slice (some ⟨C.mu n,o',none⟩) 0 0) w:=by
     rcases hu with hu|⟨e',hu⟩<;>simp[Builtin.append_,run_underlying ht,run_underlying hu,sizeOf,typeInfo,hi,hlen,hf0,storeCells]
    refine⟨.slice (some ⟨C.mu n,o',none⟩) 0 0,w,C.bump nm n (ob.ver+1), .inl (by simp only[vS,bT,hrun,Result.andThen,Sem.run_pure]),?_,?_,Cx.mV nm hcur (by omega),fun _=>iN,Wf.refl _ _,fun _ _=>rfl, .one (.inr (.inl ⟨_,hn,rfl⟩)) fun _ _=>rfl⟩
    ·refine .rs n _ 0 _ _ _ o' 0 (.inl hal) hm (by omega) (.inl rfl) fun cc hcc=> ?_
     simp only[Cx.bump,aA,ai]at hcc⊢;exact⟨by omega,fun _=>⟨trivial,by omega⟩⟩
    ·rw[ia];exact h.write nm hn (by omega) _ true cs el _ (by split;(right;simp_all);(left;rfl)) ⟨_,g1⟩ g1 g2 (by simp) (by simp) (fun _ _ _=>rfl) (by intro j a v ha;simp at ha)
   ·have:o'=0:=by rcases hoz with h|h<;>omega
    subst this;have hfit:len*i.size+news.length<=cs.size:=by
     rw[hnl,<-cO,g2];have:=cK i.size hroom;omega
    have hrun:=CK (P:=P) (w:=w) (ty:=ty) ht hi hu hlen hfc hnl hnews g1 hroom hfit
    let cs':Array Value:=(cs.toList.take (len*i.size)++news++cs.toList.drop (len*i.size+news.length)).toArray
    have hsz':cs'.size=cs.size:=by simp[cs'];omega
    obtain⟨k1,k2⟩:=setRow_heap (cs':=cs') g1;refine⟨.slice (some ⟨C.mu n,0,none⟩) (len+k) cap,w.setRow (C.mu n) cs',C.bump nm n (ob.ver+1), .inl (by simp only[vS,bT,hrun,Result.andThen,Sem.run_pure];rfl),?_,?_,Cx.mV nm hcur (by omega),fun _=>iN,Wf.setRow _ (h.wr n ob hn),fun _ _=>rfl, .one (.inr (.inl ⟨_,hn,rfl⟩)) fun _ _=>rfl⟩
    ·refine .rs n _ 0 _ _ _ 0 cap (.inl hal) hm hroom (.inr rfl) fun cc hcc=> ?_
     simp only[Cx.bump,aA,ai]at hcc⊢;exact⟨by omega,fun _=>⟨trivial,hsz⟩⟩
    ·rw[ia];refine h.write nm hn (by omega) _ true cs' el _ (by split;(right;simp_all);(left;rfl)) ⟨_,g1⟩ k1 (by rw[hsz',g2]) ?_ (by simp) (fun b _ hb=>k2 b hb) ?_
     ·rw[hsz',bU,htl,hry.1];exact hfit
     ·intro j a v ha hv;have hv':(cs.toList.take (len*i.size)++news++cs.toList.drop (len*i.size+news.length))[j]?=some v:=by simpa[cs']using hv
      have hj:j<(ob.cells.take (len*i.size)++ys).length:=(cv.1 ha).1;have hj2:j<(cs.toList.take (len*i.size)++news).length:=by
       have e1:=hrc.1;have e2:=hry.1;rw[bU]at hj⊢;omega
      rw[tE hj2]at hv';exact(hrc.append hry).2 j a v ha hv'
  ·
   have hold: ∀w',w'.heap=w.heap->(Builtin.firstCells i.size len (.slice (some ⟨C.mu n,o',none⟩) len cap)).run P w'= .ok (cs.toList.take (len*i.size)).toArray w':=by
    intro w' hw;rcases ho with ho|ho
    ·have hl0:len=0:=by omega
     subst hl0;simp[Builtin.firstCells,loadCells,loadCellsFrom]
    ·subst ho;have hl3:(cs.toList.take (len*i.size)).length=len*i.size:=by simp;omega
     have:=run_loadCells_list (P:=P) w' ⟨C.mu n,0,none⟩ (cs.toList.take (len*i.size)) (by
      intro j v hv;have g1':w'.heap[C.mu n]?=some (.cells cs el (0,0)):=by rw[hw];exact g1
      rw[fI,cell_of_heap g1',fG];rw[fU]at hv
      split at hv
      ·simpa using hv
      ·cases hv)
     rw[hl3]at this;simpa[Builtin.firstCells]using this
   have hrun:=sU (P:=P) (w:=w) (ty:=ty) ht hi hz hu hlen hfc hnl hold (by omega) hc hby
   have hge:=qV (w:=w) (len+k) cap e;have hszn:=ym (cs.toList.take (len*i.size)) news z (len:=len) (by simp;omega) hnl hzs hge
   refine⟨.slice (some ⟨w.heap.size,0,none⟩) (len+k) (grownCap w (len+k) cap e),_,C.move w nm n (ob.ver+1) (grownCap w (len+k) cap e*i.size), .inl (by simp only[vS,bT,hrun,Result.andThen,Sem.run_pure];rfl),?_,?_,Cx.Im w nm _ hcur (by omega) hm,fun _=>iN,(Wf.drew _ _).trans (Wf.alloc _ _ _),fun _ _=>rfl, .one (.inr (.inr (by simpa[Cx.move]using hbase))) fun k e=>by simp[Cx.move,e]⟩
   ·refine .rs n _ 0 _ _ _ 0 _ (.inl hal) hm hge (.inr rfl) fun cc hcc=> ?_
    simp only[Cx.move,aA,ai]at hcc⊢;exact⟨by omega,fun _=>⟨trivial,by omega⟩⟩
   ·rw[ia];have:=(h.world (w':=w.drew) fun _ _=>rfl).move nm hn hm (ver:=ob.ver+1) (by omega) (hwr _ hbase) (ob.cells.take (len*i.size)++ys) true ((cs.toList.take (len*i.size)).toArray++news.toArray++Builtin.zeroCells z.cells (grownCap w (len+k) cap e-(len+k))) e (if ob.el=some e then some e else none) (by split;(right;rfl);(left;rfl))
     (by rw[hszn,bU,htl,hyl,<-cO];exact cK _ hge) (by simp) (Ax hrc hry)
    rw[hszn]at this;exact this
end
end Go.Dom
namespace Go.Dom
open Go.RowKit
theorem ML (z:Nat): ∀(ps:List Value) (k:Nat) (cs:Array Value),(∀v∈ps,v.cells.size=z)->cs.size=(k+ps.length)*z->
  Instr.fill (fun i=>some (i*z,z)) cs ((ps.zipIdx k).map fun p=>(p.2,p.1))=some (cs.toList.take (k*z)++ps.flatMap (fun v=>v.cells.toList)).toArray:=by
 intro ps
 induction ps with
 |nil=>
  intro k cs _ hs;simp only[List.zipIdx_nil,bH,Instr.fill,List.flatMap_nil,jr];rw[dc (by simp at hs⊢;omega)]
 |cons v ps ih=>
  intro k cs hv hs;have hvz:v.cells.size=z:=hv v (by simp)
  rw[List.zipIdx_cons,br];simp only[Instr.fill,hvz];have hfit:k*z+z<=cs.size:=by
   rw[hs];have:(k+1)*z<=(k+(v::ps).length)*z:=cK _ (by simp)
   rw[cO]at this;omega
  rw[af (by simp;omega)]
  have hset:=qX (k*z) v.cells.toList cs (by simpa[hvz]using hfit)
  simp only[Array.toArray_toList]at hset;rw[hset];rw[ih (k+1) _ (fun u hu=>hv u (by simp[hu])) (by
   have hl:v.cells.toList.length=z:=by simpa using hvz
   simp only[kL,bU,da,lJ,hl,Array.length_toList];rw[hs]at hfit⊢;simp only[List.length_cons]at hfit⊢;have e:(k+1+ps.length)*z=(k+(ps.length+1))*z:=by congr 1;omega
   rw[e];omega)]
  congr 2;have hl:v.cells.toList.length=z:=by simpa using hvz
  have ht:(cs.toList.take (k*z)).length=k*z:=by simp;omega
  rw[fP,<-gZ];congr 1;have e1:(k+1)*z-k*z=z:=by rw[cO];omega
  have e2:(cs.toList.take (k*z)).take ((k+1)*z)=cs.toList.take (k*z):=dc (by rw[ht,cO];omega)
  have e3:v.cells.toList.take z=v.cells.toList:=dc (by omega)
  rw[gZ,Dh,ht,Dh,hl,e1,e2,e3];simp
theorem DL {α:Type} (l:List (Nat×α)) (n:Nat) (h:l.map (·.1)=List.range n):l=((l.map (·.2)).zipIdx).map fun p=>(p.2,p.1):=by
 have hl:l.length=n:=by have:=congrArg List.length h;simpa using this
 apply DD;intro k;rw[gY,List.getElem?_zipIdx,gY]
 cases hk:l[k]? with
 |none=>simp
 |some p=>
  have hlt:k<l.length:=(cv.1 hk).1;have h1:(l.map (·.1))[k]?=some p.1:=by simp[hk]
  rw[h]at h1;have h2:p.1=k:=by
   rw[tJ (by omega)]at h1
   injection h1 with h1;exact h1.symm
  simp[<-h2]
section
variable {P:Program} {C:Cx} {hf:Nat->Option aC} {wr:Nat->Prop} {base nm:Nat} {w:World} {tf:Nat->AV}
variable {e t:TypeId} {oa oc:Option (List PV)} {ps:Array (Nat×Value)} {vs:List Value} {xs ys:List PV} {y:PV} {ze:List AV}
theorem I2 (ht:P.underlying t=some (.slice e)) {z:Nat} (hz:cJ P e=some z) (hze:jT P e=some ze) {n:Nat} (hn:n*z<=16777216) (hps:ps.toList.map (·.1)=List.range n) (hv: ∀p∈ps.toList,p.2.cells.size=z):
  (Instr.buildSlice t n ps).run P w= .ok (.slice (some ⟨w.heap.size,0,none⟩) n n) (w.alloc (.cells ((ps.toList.map (·.2)).flatMap fun v=>v.cells.toList).toArray e)):=by
 obtain⟨zv,hzv,-,-⟩:=og (C:=⟨fun _ _=>none,fun _=>True,fun _=>none,fun _=>0,fun _=>0,fun _=>false⟩) hze
 have hl:ps.toList.length=n:=by have:=congrArg List.length hps;simpa using this
 have key: ∀zero:Array Value,Instr.fill (fun i=>some (i*z,z)) ((Array.range (n*z)).map (zero[·%zero.size]!)) ps.toList=some ((ps.toList.map (·.2)).flatMap fun v=>v.cells.toList).toArray:=by
  intro zero;have hzr:=DL ps.toList n hps;have:=ML z (ps.toList.map (·.2)) 0 ((Array.range (n*z)).map (zero[·%zero.size]!)) (by
   intro v hv';obtain⟨p,hp,rfl⟩:=cG.1 hv';exact hv p hp) (by simp[hl])
  rw[<-hzr]at this;rw[this];simp
 have hnn: ¬(n*z>2^24):=by omega
 by_cases h0:n*z=0
 ·have hk:=key #[];rw[h0]at hk;have h00: ¬((0:Nat)>2^24):=by omega
  simp only[Instr.buildSlice,bT,run_underlying ht,Result.andThen,cZ hz,h0,aA];rw[af h00];simp only[bT,Sem.run_pure,Result.andThen,hk,newRow,run_newObj];rfl
 ·simp only[Instr.buildSlice,bT,run_underlying ht,Result.andThen,cZ hz];rw[af hnn];simp only[bT,Sem.run_pure,Result.andThen,h0,ak,hzv,key,newRow,run_newObj];rfl
theorem PR.cells {rd:Rd} {v:Value} (h:PR rd y v) (hk: ∀l,y≠ .tup l): ∃us:List Value,v.cells=us.toArray/\bC (PR rd) y.cells us/\ ∀c∈y.cells,c.one=true:=by
 cases h with
 |agg l vs h1 hl h=>exact⟨vs,rfl,⟨hl,h⟩,h1⟩
 |tup l vs hl h=>exact aJ rfl (hk l)
 |b x=>exact⟨[_],rfl, .cons (.b x) .nil,by simp[PV.cells,PV.one]⟩
 |i k n=>exact⟨[_],rfl, .cons (.i k n) .nil,by simp[PV.cells,PV.one]⟩
 |s x=>exact⟨[_],rfl, .cons (.s x) .nil,by simp[PV.cells,PV.one]⟩
 |sl0=>exact⟨[_],rfl, .cons .sl0 .nil,by simp[PV.cells,PV.one]⟩
 |sle a cap=>exact⟨[_],rfl, .cons (.sle a cap) .nil,by simp[PV.cells,PV.one]⟩
 |sl l z vs bk of cap hc hz h1 hl hr h=>exact⟨[_],rfl, .cons (.sl l z vs bk of cap hc hz h1 hl hr h) .nil,by simp[PV.cells,PV.one]⟩
 |fn f=>exact⟨[_],rfl, .cons (.fn f) .nil,by simp[PV.cells,PV.one]⟩
 |fn0=>exact⟨[_],rfl, .cons .fn0 .nil,by simp[PV.cells,PV.one]⟩
 |p0=>exact⟨[_],rfl, .cons .p0 .nil,by simp[PV.cells,PV.one]⟩
 |if0=>exact⟨[_],rfl, .cons .if0 .nil,by simp[PV.cells,PV.one]⟩
 |ifc t x v h=>exact⟨[_],rfl, .cons (.ifc t x v h) .nil,by simp[PV.cells,PV.one]⟩
 |pt x o vs bk of h1 hl hr h=>exact⟨[_],rfl, .cons (.pt x o vs bk of h1 hl hr h) .nil,by simp[PV.cells,PV.one]⟩
 |fc f a c va vc hla hlc ha hc=>exact⟨[_],rfl, .cons (.fc f a c va vc hla hlc ha hc) .nil,by simp[PV.cells,PV.one]⟩
theorem Iu {rd:Rd} {f:Fn} {va vc:List Value} (h:pU f oa oc=some y) (ha: ∀a,oa=some a->bC (PR rd) a va) (hc: ∀c,oc=some c->bC (PR rd) c vc):PR rd y (.func f va.toArray vc.toArray):=by
 unfold pU at h
 split at h
 ·simp only[ai]at h;subst h;rw[(ha [] rfl).dx,(hc [] rfl).dx];exact .fn _
 ·simp only[ai]at h;subst h;exact .fc _ _ _ va vc (ha _ rfl).1 (hc _ rfl).1 (ha _ rfl).2 (hc _ rfl).2
 ·cases h
theorem yI {f:Fn} (h:pU f oa oc=some y):y.one=true:=by
 unfold pU at h
 split at h<;>first|(cases h;done)|(simp only[ai]at h;subst h;rfl)
theorem VG {x:AV} {v:Value} (h:AR C x v) (hx:x.S1=some y):PR C.rd y v:=by
 unfold AV.S1 at hx
 split at hx<;>simp only[ai,reduceCtorEq]at hx<;>subst hx
 ·cases h with|v h=>exact h
 ·cases h with|fs l a h=>exact h
 ·cases h;exact .sl0
 ·cases h with|pp _ _ vs bk of h1 hl hr h=>exact .pt _ _ vs bk of h1 hl hr h
theorem IJ {l:List AV} (h:bC (AR C) l vs) (hl:aU AV.S1 l=some ys):bC (PR C.rd) ys vs:=by
 obtain⟨m1,m2⟩:=cC hl;refine⟨by rw[<-m1];exact h.1,fun k y v hy hv=> ?_⟩
 have hk:k<l.length:=by have:=(cv.1 hy).1;omega
 exact VG (h.2 k l[k] v (by simp[hk]) hv) (m2 k _ y (by simp[hk]) hy)
theorem GX {x:AV} {v:Value} (h:AR C x v) (hx:x.DR=some y):PR C.rd y v:=by
 unfold AV.DR at hx
 split at hx
 ·simp only[ai]at hx;subst hx;cases h with|v h=>exact h
 ·simp only[ai]at hx;subst hx;cases h with|fs l a h=>exact h
 ·simp only[ai]at hx;subst hx;cases h;exact .sl0
 ·simp only[ai]at hx;subst hx;cases h with|pp _ _ vs bk of h1 hl hr h=>exact .pt _ _ vs bk of h1 hl hr h
 ·cases h with
  |fn f a c va vc hla hlc ha hc=>exact Iu hx (fun a' h'=>IJ ⟨hla,ha⟩ h') (fun c' h'=>IJ ⟨hlc,hc⟩ h')
 ·cases hx
theorem Rq {x:AV} (hx:x.DR=some y) (h1:x.one=true):y.one=true:=by
 unfold AV.DR at hx
 split at hx
 ·simp only[ai]at hx;subst hx;exact h1
 ·simp only[ai]at hx;subst hx;rfl
 ·simp only[ai]at hx;subst hx;rfl
 ·simp only[ai]at hx;subst hx;rfl
 ·exact yI hx
 ·cases hx
theorem N6 {l:List AV} (h:bC (AR C) l vs) (hl:aU AV.DR l=some ys) (h1:l.all AV.one=true):bC (PR C.rd) ys vs/\ ∀y∈ys,y.one=true:=by
 obtain⟨m1,m2⟩:=cC hl;have hg: ∀(k:Nat) (y:PV),ys[k]?=some y-> ∃x,l[k]?=some x/\x.DR=some y:=by
  intro k y hy;have hk:k<l.length:=by have:=(cv.1 hy).1;omega
  exact⟨l[k],by simp[hk],m2 k _ y (by simp[hk]) hy⟩
 refine⟨⟨by rw[<-m1];exact h.1,fun k y v hy hv=> ?_⟩,fun y hy=> ?_⟩
 ·obtain⟨x,hx,hxy⟩:=hg k y hy;exact GX (h.2 k x v hx hv) hxy
 ·obtain⟨k,hk,rfl⟩:=iv hy;obtain⟨x,hx,hxy⟩:=hg k ys[k] (by simp[hk])
  rw[bJ]at h1;exact Rq hxy (h1 x (jb hx))
theorem VH {l:List AV} (h:bC (AR C) l vs) (hl:AV.XT l=some ys):bC (PR C.rd) ys vs/\ ∀y∈ys,∀m,y≠ .tup m:=by
 unfold AV.XT at hl;obtain⟨m1,m2⟩:=cC hl;have hg: ∀(k:Nat) (y:PV),ys[k]?=some y-> ∃x,l[k]?=some x/\(match x with
  | .agg l=>if l.all AV.one then(aU AV.DR l).map PV.agg else none
  |x=>if x.nH then x.DR else none)=some y:=by
  intro k y hy;have hk:k<l.length:=by have:=(cv.1 hy).1;omega
  exact⟨l[k],by simp[hk],m2 k _ y (by simp[hk]) hy⟩
 have hone: ∀(x:AV) (y:PV) (v:Value),AR C x v->(match x with
  | .agg l=>if l.all AV.one then(aU AV.DR l).map PV.agg else none
  |x=>if x.nH then x.DR else none)=some y->PR C.rd y v/\ ∀m,y≠ .tup m:=by
  intro x y v hxv hxy
  by_cases hag: ∃m,x= .agg m
  ·obtain⟨m,rfl⟩:=hag;simp only at hxy
   split at hxy
   ·rename_i hall;simp only[dM]at hxy;obtain⟨zs,hzs,rfl⟩:=hxy
    cases hxv with
    |agg _ us hl' h'=>
     obtain⟨p1,p2⟩:=N6 ⟨hl',h'⟩ hzs hall;exact⟨.agg zs us p2 p1.1 p1.2,by simp⟩
   ·cases hxy
  ·have hxy':(if x.nH then x.DR else none)=some y:=by
    cases x<;>first|exact hxy|exact aJ ⟨_,rfl⟩ hag
   clear hxy;have hxy:=hxy'
   split at hxy
   ·rename_i hok;refine⟨GX hxv hxy,?_⟩;intro m hm;subst hm;unfold AV.DR at hxy
    split at hxy
    ·simp only[ai]at hxy;subst hxy;simp[AV.nH]at hok
    ·cases hxy
    ·cases hxy
    ·cases hxy
    ·have:=yI hxy;simp[PV.one]at this
    ·cases hxy
   ·cases hxy
 refine⟨⟨by rw[<-m1];exact h.1,fun k y v hy hv=> ?_⟩,fun y hy=> ?_⟩
 ·obtain⟨x,hx,hxy⟩:=hg k y hy;exact(hone x y v (h.2 k x v hx hv) hxy).1
 ·obtain⟨k,hk,rfl⟩:=iv hy;obtain⟨x,hx,hxy⟩:=hg k ys[k] (by simp[hk])
  obtain⟨v,-,hv⟩:=h.get hx;exact(hone x _ v hv hxy).2
theorem G5 {rd:Rd} (h:bC (PR rd) xs vs) (hk: ∀y∈xs,∀m,y≠ .tup m):bC (PR rd) (xs.flatMap PV.cells) (vs.flatMap fun v=>v.cells.toList)/\ ∀c∈xs.flatMap PV.cells,c.one=true:=by
 induction xs generalizing vs with
 |nil=>rw[h.dx];exact⟨.nil,by simp⟩
 |cons x xs ih=>
  obtain⟨v,us,rfl,h1,h2⟩:=h.fO;obtain⟨i1,i2⟩:=ih h2 fun y hy=>hk y (by simp[hy])
  obtain⟨ws,hw,hr,ho⟩:=h1.cells (hk x (by simp))
  rw[fP,fP,hw];refine⟨hr.append i1,fun c hc=> ?_⟩
  rcases iM.1 hc with hc|hc
  ·exact ho c hc
  ·exact i2 c hc
theorem G4 {xs:List AV} (h:bC (AR C) xs vs) (hk: ∀y∈xs,y.nH=true):bC (AR C) (xs.flatMap AV.cells) (vs.flatMap fun v=>v.cells.toList):=by
 induction xs generalizing vs with
 |nil=>rw[h.dx];exact .nil
 |cons x xs ih=>
  obtain⟨v,us,rfl,h1,h2⟩:=h.fO;have i1:=ih h2 fun y hy=>hk y (by simp[hy])
  obtain⟨ws,hw,hr,-⟩:=h1.cells (hk x (by simp))
  rw[fP,fP,hw];exact hr.append i1
theorem ET (h:HR C hf wr w) (hbase:base<=w.heap.size) (ht:P.underlying t=some (.slice e)) {z:Nat} (hz:cJ P e=some z) (hze:jT P e=some ze) {n:Nat} (hn:n*z<=16777216) (hps:ps.toList.map (·.1)=List.range n)
  {l:List AV} (hr:bC (AR C) l (ps.toList.map (·.2))) (hxs:AV.XT l=some xs) (hc: ∀x∈xs,x.cells.length=z):
  dI P C hf wr base nm (vS (Instr.buildSlice t n ps)) w (.fs xs) []:=by
 obtain⟨hp,hnt⟩:=VH hr hxs;have hpl:ps.toList.length=n:=by have:=congrArg List.length hps;simpa using this
 have hxl:xs.length=n:=by have:=hp.1;rw[aR]at this;omega
 have hv: ∀p∈ps.toList,p.2.cells.size=z:=by
  intro p hp';obtain⟨k,hk,rfl⟩:=iv hp';have hkx:k<xs.length:=by omega
  have:=hp.2 k xs[k] (ps.toList[k]).2 (by simp[hkx]) (by simp only[gY,bG hk,Option.map_some])
  obtain⟨us,hu,hru,-⟩:=this.cells (hnt _ (jQ hkx));rw[hu,kL,<-hru.1,hc _ (jQ hkx)]
 have hrun:=I2 (P:=P) (w:=w) ht hz hze hn hps hv;obtain⟨hrf,hone⟩:=G5 hp hnt
 let vs:=(ps.toList.map (·.2)).flatMap fun v=>v.cells.toList
 have hle:=Cx.rB h nm vs.toArray;refine⟨.slice (some ⟨w.heap.size,0,none⟩) n n,w.alloc (.cells vs.toArray e),C.gA w nm vs.toArray, .inl (by simp only[vS,bT,hrun,Result.andThen,Sem.run_pure];rfl),?_,?_,hle,fun _=>iN,Wf.alloc _ _ _,?_, .mu rfl⟩
 ·rw[<-hxl];refine .fs xs _ (.sl xs z vs w.heap.size 0 xs.length (aB _) hc hone hrf.1 ?_ ?_)
  ·intro k v hv;simp only[Cx.gA,aA,fG];simpa using hv
  ·intro k x v hx hv;exact(hrf.2 k x v hx hv).mono hle.rd
 ·exact h.gA nm vs.toArray e
 ·intro b hb
  funext o
  have:b≠w.heap.size:=by omega
  simp[Cx.gA,this]
theorem GJ (h:HR C hf wr w) (hnm: ¬C.al nm) (hwr: ∀b,base<=b->wr b) (hbase:base<=w.heap.size) (ht:P.underlying t=some (.slice e)) {z:Nat} (hz:cJ P e=some z) (hze:jT P e=some ze) {n:Nat} (hn:n*z<=16777216) (hps:ps.toList.map (·.1)=List.range n)
  {l:List AV} (hr:bC (AR C) l (ps.toList.map (·.2))) (hc: ∀x∈l,x.nH=true/\x.cells.length=z):
  dI P C hf wr base nm (vS (Instr.buildSlice t n ps)) w (.rs nm 0 0 n z) [(nm,some ⟨0,l.flatMap AV.cells,false,none⟩)]:=by
 have hpl:ps.toList.length=n:=by have:=congrArg List.length hps;simpa using this
 have hxl:l.length=n:=by have:=hr.1;rw[aR]at this;omega
 have hv: ∀p∈ps.toList,p.2.cells.size=z:=by
  intro p hp';obtain⟨k,hk,rfl⟩:=iv hp';have hkx:k<l.length:=by omega
  have:=hr.2 k l[k] (ps.toList[k]).2 (by simp[hkx]) (by simp only[gY,bG hk,Option.map_some])
  obtain⟨us,hu,hru,-⟩:=this.cells (hc _ (jQ hkx)).1;rw[hu,kL,<-hru.1,(hc _ (jQ hkx)).2]
 have hrun:=I2 (P:=P) (w:=w) ht hz hze hn hps hv;have hrf:=G4 hr fun y hy=>(hc y hy).1
 have hfl:((ps.toList.map (·.2)).flatMap fun v=>v.cells.toList).length=n*z:=by
  rw[<-hrf.1];clear hrf hr hrun hv hpl;subst hxl
  induction l with
  |nil=>simp
  |cons x l ih=>
   rw[fP,bU,(hc x (by simp)).2]
   have hps':True:=trivial;have:(l.flatMap AV.cells).length=l.length*z:=by
    clear ih hps hn
    induction l with
    |nil=>simp
    |cons y l ih=>rw[fP,bU,(hc y (by simp)).2,ih fun a ha=>hc a (by rcases bV.1 ha with rfl|ha<;>simp[*]),List.length_cons,kz];omega
   rw[this,List.length_cons,kz];omega
 refine yY h hnm hwr hbase (.inl rfl) (vs:=((ps.toList.map (·.2)).flatMap fun v=>v.cells.toList).toArray) (el:=e) (val:= .slice (some ⟨w.heap.size,0,none⟩) n n) (.inl (by simp only[vS,bT,hrun,Result.andThen,Sem.run_pure])) (by have:=hrf.1;simpa using Nat.le_of_eq this) (fun _=>by simpa using hrf.1) (fun k x v hx hv=>hrf.2 k x v hx (by simpa using hv)) ?_
 refine .rs nm 0 0 n z _ 0 n (.inr rfl) (by simp[Cx.newObj]) (aB _) (.inr rfl) fun cc hcc=> ?_
 simp only[Cx.newObj,aA]at hcc⊢;exact⟨aT _,fun _=>⟨trivial,by rw[kL,hfl];omega⟩⟩
theorem Vr (h:HR C hf wr w) (hbase:base<=w.heap.size) {s d e:TypeId} (hs:P.underlying s=some .string) (hd:P.underlying d=some (.slice e)) (he:P.underlying e=some (.int .u8)) {l:Bytes} {x:Value} (hx:AR C (.v (.s l)) x):
  dI P C hf wr base nm (vS (convert s d x)) w (.v (.sl (l.map u8))) []:=by
 cases hx with|v hx=> ?_
 cases hx;have hrun:=Lib.run_convert_string_bytes (P:=P) w s d e ⟨l.toArray⟩ hs hd he;have hcells: ∃vs:Array Value,vs=Lib.bytesCells w e ⟨l.toArray⟩:=⟨_,rfl⟩;obtain⟨vs,hvs⟩:=hcells;have hle:=Cx.rB h nm vs;have hgc:l.length<=grownCap w l.length 0 e:=grownCap_ge w l.length 0 e;have hsz:(ByteArray.mk l.toArray).size=l.length:=by simp[ByteArray.size]
 have hget: ∀(k:Nat) (v:Value),(l.map fun c=>Value.int .u8 (c.toNat:Int))[k]?=some v->vs[k]?=some v:=by
  intro k v hv;rw[hvs];unfold Lib.bytesCells;have hk:k<l.length:=by have:=(cv.1 hv).1;simpa using this
  rw[tH (by simpa using hk)]
  simpa using hv
 have hheap:(Lib.bytesWorld w e ⟨l.toArray⟩).heap.size=w.heap.size+1:=Lib.bytesWorld_size _ _ _;have hR:HR (C.gA w nm vs) hf wr (Lib.bytesWorld w e ⟨l.toArray⟩):=by
  refine(h.gA nm vs e (vs.size,vs.size+1)).world fun b hb=> ?_
  by_cases eb:b=w.heap.size
  ·subst eb;rw[Lib.bytesWorld_at_new,heap_alloc_new,hvs]
  ·have hb':b<w.heap.size:=by simp at hb;omega
   rw[Lib.bytesWorld_at_old _ _ _ _ hb',heap_alloc_old _ _ _ hb']
 refine⟨_,Lib.bytesWorld w e ⟨l.toArray⟩,C.gA w nm vs, .inl (by simp only[vS,bT,hrun,Result.andThen,Sem.run_pure];rfl),?_,hR,hle,fun _=>iN,?_,?_, .mu rfl⟩
 ·rw[hsz];have hm:(l.map u8).length=l.length:=aR ..;rw[<-hm];have hfl:(l.map u8).flatMap PV.cells=l.map u8:=by
   clear hrun hget hvs hle hgc hsz hheap hR hm
   induction l with
   |nil=>rfl
   |cons c l ih=>simp only[br,fP,ih];rfl
  refine .v (.sl (l.map u8) 1 (l.map fun c=>Value.int .u8 (c.toNat:Int)) w.heap.size 0 _ (by rw[hm];exact hgc) ?_ ?_ ?_ ?_ ?_)
  ·intro y hy;obtain⟨c,-,rfl⟩:=cG.1 hy;rfl
  ·intro y hy;rw[hfl]at hy;obtain⟨c,-,rfl⟩:=cG.1 hy;rfl
  ·rw[hfl];simp
  ·intro k v hv;simp only[Cx.gA,aA,fG];exact hget k v hv
  ·intro k y v hy hv;rw[hfl]at hy;rw[gY,dM]at hy hv;obtain⟨c,hc,rfl⟩:=hy;obtain⟨c',hc',rfl⟩:=hv;rw[hc]at hc';cases hc';exact .i _ _
 ·refine⟨rfl,?_,rfl,by rw[hheap];omega,fun b hb _=>Lib.bytesWorld_at_old _ _ _ _ hb⟩
  rfl
 ·intro b hb
  funext o
  have:b≠w.heap.size:=by omega
  simp[Cx.gA,this]
end
