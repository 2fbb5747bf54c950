/- Part of the proof. -/
import Derived.Test.YtipbhapfacgabaaGreatDoorUH3
import Derived.Laws.MakeOwn
set_option linter.all false
namespace Go.Dom
open Go.RowKit
section
variable {P:Program} {C:Cx} {hf:Nat->Option aC} {wr:Nat->Prop} {base nm:Nat} {w:World} {tf:Nat->AV}
variable {dst e src t ty:TypeId} {f len z:Nat} {fs:Array Field} {vs:List Value} {vx vy:AV} {x y:Value}
theorem vJ {s:TypeId} (hs:P.underlying s=some (.struct fs)) {fl:Field} (hfl:fs[f]?=some fl) (hz:cJ P fl.type=some z) (h0:z≠0) (b q:Nat):
  (Instr.fieldAt s (.pointer (some ⟨b,q,none⟩)) f).run P w= .ok (.pointer (some ⟨b,q+fl.offset,none⟩)) w:=by
 simp only[Instr.fieldAt,bT,run_underlying hs,Result.andThen,hfl,Instr.sureAddr,Sem.run_pure,fieldPlace,cZ hz,h0,ak,fI]
theorem Vh (h:HR C hf wr w) {s:TypeId} (hs:P.underlying s=some (.struct fs)) {fl:Field} (hfl:fs[f]?=some fl) (hz:cJ P fl.type=some z) (h0:z≠0)
  (hx:AR C vx x) {ao:AO}
  (ha:PD fl.offset vx=some ao):dI P C hf wr base nm (vS (Instr.fieldAt s x f)) w ao.v ao.up:=by
 unfold PD at ha
 replace hx:=hx.nz
 generalize vx.nz=vx at hx ha
 cases vx<;>first|(simp at ha;done)|skip
 case p n ver q=>
  simp only[cM,ai]at ha;subst ha
  cases hx with
  |p n ver o b hal hm hx=>exact .val h (vJ hs hfl hz h0 b q) (.p n ver _ b hal hm hx)
 case pp y q=>
  simp only[cM,ai]at ha;subst ha
  cases hx with
  |pp x o vs bk of h1 hl hr hx=>exact .val h (vJ hs hfl hz h0 bk (of+q)) (by rw[lk];exact .pp y _ vs bk of h1 hl hr hx)
theorem Ig (hx:AR C vx x) (hm:vx.isAgg): ∃vs:List Value,x= .agg vs.toArray/\bC (AR C) vx.cells vs:=by
 unfold AV.isAgg at hm
 split at hm
 ·cases hx with|agg l vs hl h=>exact⟨vs,rfl,hl,h⟩
 ·rename_i l
  cases hx with
  |v hx=>cases hx with
   |agg _ vs h1 hl h=>
    have hr:bC (PR C.rd) l vs:=⟨hl,h⟩;exact⟨vs,rfl,hr.U3 _ fun x v hx=> .v hx⟩
 ·exact hm.elim
theorem Fl {ag:Bool} (hag:kf P t=some ag) (hz:cJ P t=some z) (h1:ag=true\/z=1) {cs:List AV} (hr:bC (AR C) cs vs) {q:Nat} (hq:q+z<=cs.length):
  ∃val,(part t vs.toArray q).run P w= .ok val w/\AR C (if ag then jv ((cs.drop q).take z)else cs.getD q .u) val:=by
 have hl:=hr.1
 cases ag with
 |true=>
  refine⟨.agg ((vs.drop q).take z).toArray,?_, .jv ((hr.drop q).take z)⟩;simp only[part,bT,gi hag,Result.andThen,aA,cZ hz,Sem.run_pure];congr 2;apply fo;simp[List.extract_eq_take_drop]
 |false=>
  have hz1:z=1:=by simpa using h1
  subst hz1;have hlt:q<cs.length:=by omega
  have hlt':q<vs.length:=by omega
  refine⟨vs[q],?_,?_⟩
  ·simp only[part,bT,gi hag,Result.andThen,bQ,ak];simp[hlt']
  ·simp only[bQ,ak];rw[mS hlt];exact hr.2 q _ _ (by simp[hlt]) (by simp[hlt'])
theorem Vi (h:HR C hf wr w) {s:TypeId} (hs:P.underlying s=some (.struct fs)) {fl:Field} (hfl:fs[f]?=some fl) {ag:Bool} (hag:kf P fl.type=some ag) (hz:cJ P fl.type=some z) (h1:ag=true\/z=1)
  (hx:AR C vx x) (hm:vx.isAgg) (hq:fl.offset+z<=vx.cells.length):
  dI P C hf wr base nm (vS (Instr.field s x f)) w (if ag then jv ((vx.cells.drop fl.offset).take z)else vx.cells.getD fl.offset .u) []:=by
 obtain⟨vs,rfl,hr⟩:=Ig hx hm;obtain⟨val,hrun,hv⟩:=Fl (P:=P) (w:=w) hag hz h1 hr hq;refine .val h (val:=val) ?_ hv;simp only[Instr.field,bT,run_underlying hs,Result.andThen,hfl,asAgg,Sem.run_pure,hrun]
theorem Vk (h:HR C hf wr w) {n:Nat} (ht:P.underlying t=some (.array n e)) {ag:Bool} (hag:kf P e=some ag) (hz:cJ P e=some z) (h1:ag=true\/z=1)
  (hx:AR C vx x) (hm:vx.isAgg) {k:IntKind} {i:Int} (hy:AR C (.v (.i k i)) y) (h0:0<=i) (hlt:i<n) (hq:i.toNat*z+z<=vx.cells.length):
  dI P C hf wr base nm (vS (Instr.index t x y)) w (if ag then jv ((vx.cells.drop (i.toNat*z)).take z)else vx.cells.getD (i.toNat*z) .u) []:=by
 obtain⟨vs,rfl,hr⟩:=Ig hx hm;have e:=fJ hy;subst e;obtain⟨val,hrun,hv⟩:=Fl (P:=P) (w:=w) hag hz h1 hr hq;refine .val h (val:=val) ?_ hv;simp only[Instr.index,asIntOf,bT,run_underlying ht,Result.andThen,Sem.run_pure,h0,hlt,and_self,aA,cZ hz,hrun]
theorem Vj (h:HR C hf wr w) (ht:P.underlying t=some .string) {b:Bytes} (hx:AR C (.v (.s b)) x) {k:IntKind} {i:Int} (hy:AR C (.v (.i k i)) y) (h0:0<=i) (hlt:i<b.length):
  dI P C hf wr base nm (vS (Instr.index t x y)) w (.v (u8 (b.getD i.toNat 0))) []:=by
 have e:=fJ hy;subst e;have e:=yq hx;subst e;have hlt':i.toNat<b.length:=by omega
 refine .val h (val:= .int .u8 (b.getD i.toNat 0).toNat) ?_ (.v (.i _ _));have hg:(ByteArray.mk b.toArray)[i.toNat]?=some b[i.toNat]:=by
  have hs:i.toNat<(ByteArray.mk b.toArray).size:=by simpa[ByteArray.size]using hlt'
  rw[getElem?_pos (ByteArray.mk b.toArray) i.toNat hs];rfl
 simp only[Instr.index,asIntOf,bT,run_underlying ht,Result.andThen,Sem.run_pure,h0,aA,hg];rw[mS hlt']
theorem Vm (h:HR C hf wr w) (ht:P.underlying t=some (.slice e)) (hz:cJ P e=some z) (hx:AR C vx x) (hy:AR C vy y) {ao:AO}
  (ha:PF z vx vy=some ao) (hp:ao.pre):dI P C hf wr base nm (vS (Instr.indexAt t x y)) w ao.v ao.up:=by
 unfold PF at ha;have pure: ∀(l:List PV) (q:Option Addr) (len cap:Nat) (k:IntKind) (i:Int),PR C.rd (.sl l) (.slice q len cap)->0<=i->i<l.length->(l.getD i.toNat .fn0).cells.length=z->
   dI P C hf wr base nm (vS (Instr.indexAt t (.slice q len cap) (.int k i))) w (.pp (l.getD i.toNat .fn0) 0) []:=by
  intro l q len cap k i hpr h0 hlt hc;have hlt':i.toNat<l.length:=by omega
  rw[mS hlt']at hc⊢
  cases hpr with
  |sl0=>simp at hlt;omega
  |sle a cap=>simp at hlt;omega
  |sl l z' vs bk of cap hcap hz' h1' hl hr hrel=>
   have hzz:z'=z:=by rw[<-hz' _ (jQ hlt'),hc]
   subst hzz;have hfl:=yd hz';have hfg:=MP hz' hlt';have hrl:bC (PR C.rd) (l.flatMap PV.cells) vs:=⟨hl,hrel⟩;have hrl':=(hrl.drop (i.toNat*z')).take z';rw[hfg]at hrl';refine .val h (val:= .pointer (some ⟨bk,of+i.toNat*z'+0,none⟩)) ?_ (.pp _ 0 ((vs.drop (i.toNat*z')).take z') bk (of+i.toNat*z') ?_ hrl'.1 ?_ hrl'.2)
   ·simp only[Instr.indexAt,asIntOf,bT,run_underlying ht,Result.andThen,Sem.run_pure,h0,hlt,and_self,aA,cZ hz,fI,Nat.add_zero]
   ·intro yy hyy;rw[<-hfg]at hyy;exact h1' yy (pd (kO hyy))
   ·intro kk v hv;rw[fU]at hv
    split at hv
    ·rw[kM]at hv;rw[lk];exact hr _ _ hv
    ·cases hv
 split at ha
 ·skip
  simp only[dm,ai]at ha;subst ha;have e:=fJ hy;subst e
  cases hx with
  |v hx=>
   have hx':=hx
   cases hx with
   |sl0=>exact pure _ _ _ _ _ _ hx' hp.1 hp.2.1 hp.2.2
   |sl=>exact pure _ _ _ _ _ _ hx' hp.1 hp.2.1 hp.2.2
   |sle=>exact pure _ _ _ _ _ _ hx' hp.1 hp.2.1 hp.2.2
 ·skip
  simp only[dm,ai]at ha;subst ha;have e:=fJ hy;subst e
  cases hx with
  |fs l a hx=>exact pure _ _ _ _ _ _ hx hp.1 hp.2.1 hp.2.2
 ·rename_i n ver o len z' k i;simp only[dm,ai]at ha;subst ha;have e:=fJ hy;subst e;obtain⟨h0,hlt,rfl⟩:=hp
  cases hx with
  |rs _ _ _ _ _ b o' cap hal hm hc ho hx=>
   have:o'=o:=by rcases ho with ho|ho<;>omega
   subst this;refine .val h (val:= .pointer (some ⟨b,o'+i.toNat*z',none⟩)) ?_ (.p n ver _ b hal hm fun c hc'=>⟨(hx c hc').1,fun e=>((hx c hc').2 e).1⟩)
   simp only[Instr.indexAt,asIntOf,bT,run_underlying ht,Result.andThen,Sem.run_pure,h0,hlt,and_self,aA,cZ hz,fI]
 ·cases ha
theorem I3 {n:Nat} (ht:P.underlying t=some (.array n e)) (hz:cJ P e=some z) (b q:Nat) (k:IntKind) (i:Int) (h0:0<=i) (hlt:i<n):
  (Instr.indexAt t (.pointer (some ⟨b,q,none⟩)) (.int k i)).run P w= .ok (.pointer (some ⟨b,q+i.toNat*z,none⟩)) w:=by
 simp only[Instr.indexAt,asIntOf,bT,run_underlying ht,Result.andThen,Sem.run_pure,Instr.sureAddr,h0,hlt,and_self,aA,cZ hz,fI]
theorem Vl (h:HR C hf wr w) {n:Nat} (ht:P.underlying t=some (.array n e)) (hz:cJ P e=some z) (hx:AR C vx x) (hy:AR C vy y) {ao:AO}
  (ha:PE n z vx vy=some ao) (hp:ao.pre):dI P C hf wr base nm (vS (Instr.indexAt t x y)) w ao.v ao.up:=by
 unfold PE at ha
 replace hx:=hx.nz
 generalize vx.nz=vx at hx ha
 split at ha
 ·rename_i m ver o k i;simp only[dm,ai]at ha;subst ha;have e:=fJ hy;subst e
  cases hx with
  |p _ _ _ b hal hm hx=>exact .val h (I3 ht hz b o _ _ hp.1 hp.2) (.p m ver _ b hal hm hx)
 ·rename_i x o k i;simp only[dm,ai]at ha;subst ha;have e:=fJ hy;subst e
  cases hx with
  |pp _ _ vs bk of h1 hl hr hx=>exact .val h (I3 ht hz bk (of+o) _ _ hp.1 hp.2) (by rw[lk];exact .pp x _ vs bk of h1 hl hr hx)
 ·cases ha
theorem Vg (h:HR C hf wr w) {k:Nat} (hx:AR C vx x) {ao:AO}
  (ha:PB k vx=some ao) (hp:ao.pre):dI P C hf wr base nm (vS (Instr.extract x k)) w ao.v ao.up:=by
 unfold PB at ha
 split at ha
 ·rename_i l;simp only[dm,ai]at ha;subst ha
  cases hx with
  |tup _ vs hl hx=>
   have hk:k<l.length:=hp;have hk':k<vs.length:=by omega
   refine .val h (val:=vs[k]) (by simp[Instr.extract,hk']) ?_
   simp only[mS hk];exact hx k _ _ (by simp[hk]) (by simp[hk'])
 ·rename_i l;simp only[dm,ai]at ha;subst ha
  cases hx with
  |v hx=>cases hx with
   |tup _ vs hl hx=>
    have hk:k<l.length:=hp;have hk':k<vs.length:=by omega
    refine .val h (val:=vs[k]) (by simp[Instr.extract,hk']) ?_
    simp only[mS hk];exact .v (hx k _ _ (by simp[hk]) (by simp[hk']))
 ·cases ha
theorem Rb (h:HR C hf wr w) (ht:P.underlying t=some .string) {b:Bytes} (hx:AR C (.v (.s b)) x):dI P C hf wr base nm (vS (Builtin.len_ #[t] ty #[x])) w (.v (.i .i64 b.length)) []:=by
 refine .val h (val:= .int .i64 b.length) ?_ (.v (.i _ _));have e:=yq hx;subst e;have es:(ByteArray.mk b.toArray).size=b.length:=by simp[ByteArray.size]
 simp[Builtin.len_,run_underlying ht,goInt,es]
theorem Vn (h:HR C hf wr w) (hu:P.underlying t=some (.slice e)) (hx:AR C vx x) {n:Nat} (hn:lenOf vx=some n):dI P C hf wr base nm (vS (Builtin.len_ #[t] ty #[x])) w (.v (.i .i64 n)) []:=by
 refine .val h (val:= .int .i64 n) ?_ (.v (.i _ _));unfold lenOf at hn
 split at hn<;>simp only[ai,reduceCtorEq]at hn
 all_goals subst hn
 ·cases hx with
  |v hx=>cases hx<;>simp[Builtin.len_,run_underlying hu,goInt]
 ·cases hx with
  |fs l a hx=>simp[Builtin.len_,run_underlying hu,goInt]
 ·cases hx;simp[Builtin.len_,run_underlying hu,goInt]
 ·cases hx;simp[Builtin.len_,run_underlying hu,goInt]
theorem SW (h:HR C hf wr w) {mx:Bool} {ts:Array TypeId} {k k':IntKind} {m n:Int} (hx:AR C (.v (.i k m)) x) (hy:AR C (.v (.i k' n)) y):
  dI P C hf wr base nm (vS (if mx then Builtin.max_ ts ty #[x,y]else Builtin.min_ ts ty #[x,y])) w (.v (.i k (if mx then(if n>m then n else m)else(if n<m then n else m)))) []:=by
 have e:=fJ hx;subst e;have e:=fJ hy;subst e;refine .val h (val:= .int k (if mx then(if n>m then n else m)else(if n<m then n else m))) ?_ (.v (.i _ _))
 cases mx<;>simp[Builtin.max_,Builtin.min_,Builtin.max2,Builtin.min2]
theorem PR.bytes {l:List PV} (h:bC (PR C.rd) l vs) (hb: ∀y∈l,y.isByte):vs=l.map fun y=> .int .u8 (match y with| .i _ n=>n| _=>0):=by
 induction l generalizing vs with
 |nil=>rw[h.dx];rfl
 |cons y l ih=>
  obtain⟨v,us,rfl,h1,h2⟩:=h.fO;rw[ih h2 fun z hz=>hb z (by simp[hz])]
  have hy:=hb y (by simp)
  unfold PV.isByte at hy
  split at hy
  ·cases h1;rfl
  ·exact hy.elim
theorem foldl_push (ns:List Int) (s:ByteArray):ns.foldl (fun r n=>r.push (UInt8.ofNat n.toNat)) s=⟨s.data++(ns.map fun n=>UInt8.ofNat n.toNat).toArray⟩:=by
 induction ns generalizing s with
 |nil=>cases s;simp
 |cons n ns ih=>rw[List.foldl_cons,ih];cases s;simp[ByteArray.push]
theorem wM (hs:P.underlying src=some (.slice e)) (he:P.underlying e=some (.int .u8)) (hd:P.underlying dst=some .string) {a:Addr} (ns:List Int)
  (hrun:(loadCells a len).run P w= .ok (ns.map (Value.int .u8)).toArray w) (cap:Nat):
  (convert src dst (.slice (some a) len cap)).run P w= .ok (.string ⟨(ns.map fun n=>UInt8.ofNat n.toNat).toArray⟩) w:=by
 rw[run_convert_bytes_string w src dst e _ len cap hs he hd,run_bytesToString w a len cap ns hrun,foldl_push];simp[ByteArray.empty,ByteArray.emptyWithCapacity];rfl
def PV.num:PV->Int
 | .i _ n=>n
 | _=>0
theorem PR.eA {rd:Rd} {l:List PV} (h:bC (PR rd) l vs) (hb: ∀y∈l,y.isByte):vs=(l.map PV.num).map (Value.int .u8):=by
 induction l generalizing vs with
 |nil=>rw[h.dx];rfl
 |cons y l ih=>
  obtain⟨v,us,rfl,h1,h2⟩:=h.fO;rw[ih h2 fun z hz=>hb z (by simp[hz])]
  have hy:=hb y (by simp)
  unfold PV.isByte at hy
  split at hy
  ·cases h1;rfl
  ·exact hy.elim
theorem Ec {l:List PV} (hb: ∀y∈l,y.isByte):(l.map PV.num).map (fun n=>UInt8.ofNat n.toNat)=l.map PV.byte:=by
 induction l with
 |nil=>rfl
 |cons y l ih=>
  simp only[br];rw[ih fun z hz=>hb z (by simp[hz])]
  have hy:=hb y (by simp)
  unfold PV.isByte at hy
  split at hy
  ·rfl
  ·exact hy.elim
theorem Mp {l:List PV} (hb: ∀y∈l,y.isByte):l.flatMap PV.cells=l/\ ∀y∈l,y.cells.length=1:=by
 induction l with
 |nil=>exact⟨rfl,by simp⟩
 |cons y l ih=>
  obtain⟨h1,h2⟩:=ih fun z hz=>hb z (by simp[hz])
  have hy:=hb y (by simp)
  have hc:y.cells=[y]:=by
   unfold PV.isByte at hy
   split at hy
   ·rfl
   ·exact hy.elim
  refine⟨by rw[fP,h1,hc];rfl,fun z hz=> ?_⟩
  rcases bV.1 hz with rfl|hz
  ·rw[hc];rfl
  ·exact h2 z hz
theorem kY (h:HR C hf wr w) (hs:P.underlying src=some (.slice e)) (he:P.underlying e=some (.int .u8)) (hd:P.underlying dst=some .string) {l:List PV} {q:Option Addr} {cap:Nat} (hx:PR C.rd (.sl l) (.slice q len cap)) (hb: ∀y∈l,y.isByte):
  dI P C hf wr base nm (vS (convert src dst (.slice q len cap))) w (.v (.s (l.map PV.byte))) []:=by
 refine .val h (val:= .string ⟨(l.map PV.byte).toArray⟩) ?_ (.v (.s _))
 cases hx with
 |sl0=>rw[run_convert_bytes_nil w src e hs he 0 0 dst hd];rfl
 |sle a cap=>
  have hld:(loadCells a 0).run P w= .ok (([]:List Int).map (Value.int .u8)).toArray w:=by simp[loadCells,loadCellsFrom]
  rw[wM hs he hd [] hld cap];rfl
 |sl l z vs bk of cap hc hz h1 hl hr hrel=>
  have hrl:bC (PR C.rd) (l.flatMap PV.cells) vs:=⟨hl,hrel⟩;rw[(Mp hb).1]at hrl;have hvs:=PR.eA hrl hb;have hld:=oU (P:=P) h vs hr 0 l.length (by rw[<-hrl.1];omega)
  rw[Nat.add_zero,List.drop_zero,dc (by rw[hrl.1];exact aB _)]at hld
  rw[hvs]at hld;rw[wM hs he hd _ hld cap,Ec hb]
theorem AR.XS {l:List AV} (h:bC (AR C) l vs) (hb: ∀y∈l,y.isByte): ∃ps:List PV,bC (PR C.rd) ps vs/\(∀y∈ps,y.isByte)/\l.map AV.byte=ps.map PV.byte:=by
 induction l generalizing vs with
 |nil=>exact⟨[],by rw[h.dx];exact .nil,by simp,rfl⟩
 |cons y l ih=>
  obtain⟨v,us,rfl,h1,h2⟩:=h.fO;obtain⟨ps,h3,h4,h5⟩:=ih h2 fun z hz=>hb z (by simp[hz])
  have hy:=hb y (by simp)
  unfold AV.isByte at hy
  split at hy
  ·rename_i x
   cases h1 with
   |v h1=>
    refine⟨x::ps, .cons h1 h3,?_,by simp[h5,AV.byte]⟩
    intro z hz;rcases bV.1 hz with rfl|hz
    ·exact hy
    ·exact h4 z hz
  ·exact hy.elim
theorem Ks (h:HR C hf wr w) (hs:P.underlying src=some (.slice e)) (he:P.underlying e=some (.int .u8)) (hd:P.underlying dst=some .string) {n ver o len z:Nat} (hx:AR C (.rs n ver o len z) x) {ob:aC} (hn:hf n=some ob) (hver:ob.ver=ver) (hlen:o+len<=ob.cells.length)
  (hb: ∀y∈(ob.cells.drop o).take len,y.isByte):dI P C hf wr base nm (vS (convert src dst x)) w (.v (.s (((ob.cells.drop o).take len).map AV.byte))) []:=by
 cases hx with
 |rs _ _ _ _ _ b o' cap hal hm hc ho hx=>
  have hcur:=(h.live n ob hn).2;obtain⟨-,h2⟩:=hx _ hcur;obtain⟨rfl,-⟩:=h2 hver.symm;obtain⟨vs,hrun,hrel⟩:=pZ (P:=P) h hn hm hlen;obtain⟨ps,h3,h4,h5⟩:=AR.XS hrel hb;have hvs:=PR.eA h3 h4;rw[h5,<-Ec h4];refine .val h (val:= .string ⟨((ps.map PV.num).map fun n=>UInt8.ofNat n.toNat).toArray⟩) ?_ (.v (.s _))
  rcases ho with ho|ho
  ·have hl0:len=0:=by omega
   subst hl0;have hp0:ps=[]:=by
    have:=h3.1;have h6:=hrel.1;simp at h6;exact kD (by omega)
   subst hp0;exact wM hs he hd [] (by simp[loadCells,loadCellsFrom]) cap
  ·subst ho;exact wM hs he hd _ (by rw[<-hvs];exact hrun) cap
end
end Go.Dom
namespace Go.Dom
open Go.RowKit
section
variable {P:Program} {C:Cx} {hf:Nat->Option aC} {wr:Nat->Prop} {base nm:Nat} {w:World} {tf:Nat->AV}
variable {el t:TypeId}
theorem yY (h:HR C hf wr w) (hnm: ¬C.al nm) (hwr: ∀b,base<=b->wr b) (hbase:base<=w.heap.size) {s:Sem Next} {val:Value} {cells:List AV} {gr:Bool} {vs:Array Value} {v:AV} {eo:Option TypeId} (heo:eo=none\/eo=some el)
  (hrun:s.run P w= .ok (.value val) (w.alloc (.cells vs el))\/s.run P w= .ok (.value val) (w.drew.alloc (.cells vs el)))
  (hl:cells.length<=vs.size) (hg:gr=false->cells.length=vs.size) (hc: ∀(k:Nat) (x:AV) (v:Value),cells[k]?=some x->vs[k]?=some v->AR C x v)
  (hv:AR (C.newObj w nm vs.size) v val):dI P C hf wr base nm s w v [(nm,some ⟨0,cells,gr,eo⟩)]:=by
 have hle:=Cx.Bc w (z:=vs.size) hnm;rcases hrun with hrun|hrun
 ·refine⟨val,_,C.newObj w nm vs.size, .inl hrun,hv,?_,hle,fun _=>iN,Wf.alloc _ _ _,fun _ _=>rfl, .one (.inr (.inr (by simpa[Cx.newObj]using hbase))) fun k e=>by simp[Cx.newObj,e]⟩
  rw[ia];exact h.newObj hnm (hwr _ hbase) cells gr vs el eo heo hl hg hc
 ·refine⟨val,_,C.newObj w nm vs.size, .inl hrun,hv,?_,hle,fun _=>iN,(Wf.drew _ _).trans (Wf.alloc _ _ _),fun _ _=>rfl, .one (.inr (.inr (by simpa[Cx.newObj]using hbase))) fun k e=>by simp[Cx.newObj,e]⟩
  rw[ia];exact(h.world (w':=w.drew) fun _ _=>rfl).newObj hnm (hwr _ hbase) cells gr vs el eo heo hl hg hc
theorem og {z:List AV} (h:jT P t=some z): ∃v:Value,(∀w,(zeroValue t).run P w= .ok v w)/\bC (AR C) z v.cells.toList/\cJ P t=some v.cells.size:=by
 unfold jT at h;simp only[Option.bind_eq_bind,bu]at h;obtain⟨i,hi,v,hv,h⟩:=h
 split at h
 ·rename_i hsz;refine⟨v,fun w=>by simp[zeroValue,typeInfo,hi,hv],?_,by simp[cJ,hi,hsz]⟩
  obtain⟨h1,h2⟩:=cC h;exact⟨by simpa using h1.symm,fun k x u hx hu=>BU (h2 k u x hu hx)⟩
 ·cases h
theorem EP (C:Cx) (w:World) (nm z:Nat):AR (C.newObj w nm z) (.p nm 0 0) (.pointer (some ⟨w.heap.size,0,none⟩)):=
 .p nm 0 0 _ (.inr rfl) (by simp[Cx.newObj]) fun c hc=>by simp[Cx.newObj]at hc⊢
theorem NK (h:HR C hf wr w) (hnm: ¬C.al nm) (hwr: ∀b,base<=b->wr b) (hbase:base<=w.heap.size) {z:List AV} (hz:jT P t=some z):
  dI P C hf wr base nm (vS (Instr.alloc t true (.tuple #[]))) w (.p nm 0 0) [(nm,some ⟨0,z,false,some t⟩)]:=by
 obtain⟨v,hv,hr,-⟩:=og (C:=C) hz;refine yY h hnm hwr hbase (.inr rfl) (vs:=v.cells) (el:=t) (.inl ?_) (by have:=hr.1;simpa using Nat.le_of_eq this) (fun _=>by simpa using hr.1) ?_ (EP _ _ _ _)
 ·simp only[vS,Instr.alloc,bT,hv,Result.andThen,newVar,newRow,run_newObj,Sem.run_pure];rfl
 ·intro k x u hx hu;exact hr.2 k x u hx (by simpa using hu)
theorem Vb (h:HR C hf wr w) (hnm: ¬C.al nm) (hwr: ∀b,base<=b->wr b) (hbase:base<=w.heap.size) (t:TypeId) {vx:AV} {x:Value} (hx:AR C vx x) (hk:vx.nH=true):
  dI P C hf wr base nm (vS (Instr.box t x)) w (.p nm 0 0) [(nm,some ⟨0,vx.cells,false,none⟩)]:=by
 obtain⟨vs,hvs,hr,-⟩:=hx.cells hk;refine yY h hnm hwr hbase (.inl rfl) (vs:=vs.toArray) (el:=t) (.inl ?_) (by have:=hr.1;simpa using Nat.le_of_eq this) (fun _=>by simpa using hr.1) ?_ (EP _ _ _ _)
 ·simp only[vS,Instr.box,bT,Result.andThen,newVar,newRow,run_newObj,Sem.run_pure,hvs];rfl
 ·intro k x u hx hu;exact hr.2 k x u hx (by simpa using hu)
theorem setRow_heap {g:Nat} {cs cs':Array Value} {fr:Nat×Nat} (hg:w.heap[g]?=some (.cells cs el fr)):(w.setRow g cs').heap[g]?=some (.cells cs' el fr)/\(∀b,b≠g->(w.setRow g cs').heap[b]?=w.heap[b]?):=by
 constructor
 ·simp[World.setRow,tM,hg]
 ·intro b hb;simp only[World.setRow,tM];rw[af (by omega)]
theorem Wf.setRow {g:Nat} (cs':Array Value) (hwr:wr g):Wf wr w (w.setRow g cs'):=by
 refine⟨rfl,rfl,rfl,by simp,fun b _ hn=> ?_⟩
 have hne:b≠g:=fun e=>hn (e▸hwr)
 simp only[World.setRow,tM];rw[af (by omega)]
theorem rL {cells:List AV} {cs:List Value} (hr: ∀(k:Nat) (x:AV) (v:Value),cells[k]?=some x->cs[k]?=some v->AR C x v) {ys:List AV} {vs:List Value} (hy:bC (AR C) ys vs) {o:Nat} (ho:o<=cells.length) (hlen:cells.length<=cs.length) (hfit:o+ys.length<=cs.length):
  ∀(k:Nat) (x:AV) (v:Value),(cells.take o++ys++cells.drop (o+ys.length))[k]?=some x->(cs.take o++vs++cs.drop (o+vs.length))[k]?=some v->AR C x v:=by
 intro k x v hx hv;have hl:=hy.1;rw[gZ]at hx hv;rw[Dt]at hx hv;have e1:(cells.take o).length=o:=by simp;omega
 have e2:(cs.take o).length=o:=by simp;omega
 rw[e1]at hx;rw[e2]at hv
 by_cases hk:k<o
 ·rw[ah hk]at hx hv;rw[fU,ah hk]at hx hv;exact hr k x v hx hv
 ·rw[af hk]at hx hv;rw[Dt]at hx hv
  by_cases hk2:k-o<ys.length
  ·rw[ah hk2]at hx;rw[ah (by omega)]at hv
   exact hy.2 _ x v hx hv
  ·rw[af hk2,kM]at hx;rw[af (by omega),kM]at hv
   rw[<-hl]at hv;exact hr _ x v hx hv
theorem XL (h:HR C hf wr w) {z:Nat} (hz:cJ P t=some z) {n ver o:Nat} {x:Value} (hx:AR C (.p n ver o) x) {ob:aC} (hn:hf n=some ob) (hver:ob.ver=ver) (hlen:o+z<=ob.cells.length)
  {vy:AV} {y:Value} (hy:AR C vy y) (hk:vy.nH=true) (hl:vy.cells.length=z):
  dI P C hf wr base nm (do Instr.storeAt t x y;pure .skip) w (.v (.tup [])) [(n,some ⟨ob.ver,ob.cells.take o++vy.cells++ob.cells.drop (o+z),ob.gr,ob.el⟩)]:=by
 have hm:=Ko hx;have e:=vw hx h hn hver;subst e;obtain⟨vs,hvs,hr,h1⟩:=hy.cells hk;obtain⟨cs,el,g1,g2,g3,g4,g5⟩:=h.obj n ob hn hm;have hvl:vs.length=z:=by rw[<-hr.1,hl]
 have hst:=run_storeCells_at P (C.mu n) o el vs 0 cs w g1 (by omega) h1
 simp only[Nat.add_zero]at hst;have hcur:=(h.live n ob hn).2
 let cs':Array Value:=(cs.toList.take o++vs++cs.toList.drop (o+vs.length)).toArray
 have hsz:cs'.size=cs.size:=by simp[cs'];omega
 refine⟨undef,w.setRow (C.mu n) cs',C.bump nm n ob.ver, .inr ⟨?_,rfl⟩,?_,?_,Cx.mV nm hcur (aB _),fun _=>iN,Wf.setRow _ (h.wr n ob hn),fun _ _=>rfl, .one (.inr (.inl ⟨_,hn,rfl⟩)) fun _ _=>rfl⟩
 ·have hvsz:y.cells.size=z:=by rw[hvs];simpa using hvl
  simp only[Instr.storeAt,Instr.sureAddr,storeVar,bT,Sem.run_pure,Result.andThen,cZ hz,hvsz];simp only[ne_eq,not_true_eq_false,ak,Sem.run_pure,Result.andThen];have:y.cells.toList=vs:=by rw[hvs]
  rw[this,hst]
 ·exact .v (.tup [] [] rfl (fun k x v hx=>by simp at hx))
 ·rw[ia];obtain⟨k1,k2⟩:=setRow_heap (cs':=cs') g1;refine h.write nm hn (aB _) _ ob.gr cs' el ob.el (.inr rfl) ⟨_,g1⟩ k1 (by rw[hsz,g2]) ?_ ?_ (fun b _ hb=>k2 b hb) ?_
  ·simp[cs',hl];omega
  ·intro hg;have:=g4 hg;simp[cs',hl];omega
  ·intro k x v hx hv;have hv':(cs.toList.take o++vs++cs.toList.drop (o+vs.length))[k]?=some v:=by simpa[cs']using hv
   have hsp:=rL (C:=C) (cells:=ob.cells) (cs:=cs.toList) (fun k x v hx hv=>g5 k x v hx (by simpa using hv)) hr (o:=o) (by omega) (by simpa using g3) (by simp;omega)
   exact hsp k x v (by rw[hl];exact hx) hv'
end
end Go.Dom
namespace Go.Dom
open Go.RowKit
theorem La (off:Nat) (vs:List Value): ∀(k:Nat) (cs:Array Value),off+k+vs.length<=cs.size->
  (vs.zipIdx k).foldl (fun(cs:Array Value) (p:Value×Nat)=>cs.setIfInBounds (off+p.2) p.1) cs=(cs.toList.take (off+k)++vs++cs.toList.drop (off+k+vs.length)).toArray:=by
 induction vs with
 |nil=>intro k cs h;simp
 |cons v vs ih=>
  intro k cs h;simp only[List.length_cons]at h;rw[List.zipIdx_cons,List.foldl_cons,ih (k+1) _ (by simp;omega)]
  apply fo;have hlt:off+k<cs.toList.length:=by simp;omega
  simp only[Array.toList_setIfInBounds];have e1:(cs.toList.set (off+k) v).take (off+(k+1))=cs.toList.take (off+k)++[v]:=by
   rw[<-lk,Jc (by simpa using hlt)]
   simp[List.take_set_of_le]
  have e2:(cs.toList.set (off+k) v).drop (off+(k+1)+vs.length)=cs.toList.drop (off+k+(v::vs).length):=by
   rw[List.drop_set_of_lt (by omega)]
   congr 1;simp only[List.length_cons];omega
  rw[e1,e2];simp
theorem qX (off:Nat) (vs:List Value) (cs:Array Value) (h:off+vs.length<=cs.size):
  (vs.toArray.zipIdx).foldl (fun(cs:Array Value) (p:Value×Nat)=>cs.setIfInBounds (off+p.2) p.1) cs=(cs.toList.take off++vs++cs.toList.drop (off+vs.length)).toArray:=by
 have:=La off vs 0 cs (by simpa using h)
 simpa using this
section
variable {P:Program} {C:Cx} {hf:Nat->Option aC} {wr:Nat->Prop} {base nm:Nat} {w:World} {tf:Nat->AV}
variable {cs z:List AV} {e t:TypeId} {ps:Array (Nat×Operand)} {qs:List (Nat×Nat×SX)}
theorem H5 (place:Nat->Option (Nat×Nat)): ∀(ps:List (Nat×Value)) (qs:List (Nat×Nat×AV)) (cells:List AV) (cs:Array Value),bC (AR C) cells cs.toList->ps.length=qs.length->
  (∀(k:Nat) (p:Nat×Value) (q:Nat×Nat×AV),ps[k]?=some p->qs[k]?=some q->place p.1=some (q.1,q.2.1)/\AR C q.2.2 p.2)->
  ∀(cells':List AV) (pr:Prop),sC cells qs=some (cells',pr)->pr-> ∃cs',Instr.fill place cs ps=some cs'/\bC (AR C) cells' cs'.toList:=by
 intro ps
 induction ps with
 |nil=>
  intro qs cells cs hr hl _ cells' pr hf hp;have:qs=[]:=kD (by simpa using hl.symm)
  subst this;simp only[sC,ai,dJ]at hf;obtain⟨rfl,-⟩:=hf;exact⟨cs,rfl,hr⟩
 |cons p ps ih=>
  intro qs cells cs hr hl hpq cells' pr hf hp
  cases qs with
  |nil=>simp at hl
  |cons q qs=>
   obtain⟨o,z,v⟩:=q;obtain⟨i,x⟩:=p;simp only[sC]at hf
   cases hf2:sC (cells.take o++v.cells++cells.drop (o+z)) qs with
   |none=>rw[hf2]at hf;cases hf
   |some cp=>
    obtain⟨c2,p2⟩:=cp;simp only[hf2,ai,dJ]at hf;obtain⟨rfl,rfl⟩:=hf;obtain⟨⟨hk,hvl,hfit⟩,hp2⟩:=hp;obtain⟨hpl,hav⟩:=hpq 0 _ _ rfl rfl;obtain⟨vs,hvs,hrv,-⟩:=hav.cells hk;have hlen:cells.length=cs.size:=by simpa using hr.1
    have hvl2:vs.length=z:=by rw[<-hrv.1,hvl]
    have hset:=qX o vs cs (by omega)
    have hr2:bC (AR C) (cells.take o++v.cells++cells.drop (o+z)) (cs.toList.take o++vs++cs.toList.drop (o+vs.length)):=by
     rw[hvl2];exact((hr.take o).append hrv).append (hr.drop (o+z))
    obtain⟨cs',h1,h2⟩:=ih qs _ ((cs.toList.take o++vs++cs.toList.drop (o+vs.length)).toArray) (by simpa using hr2) (by simpa using hl)
     (fun k p q hp hq=>hpq (k+1) p q (by simpa using hp) (by simpa using hq)) _ _ hf2 hp2
    refine⟨cs',?_,h2⟩;simp only at hpl;have hsz:x.cells.size=z:=by rw[hvs];simpa using hvl2
    simp only[Instr.fill,hpl,hsz];rw[af (by simp;omega)]
    rw[hvs,hset];exact h1
theorem we (fs:List Field) (hfs:fs.all (fun f=>(cJ P f.type).isSome)=true) (w:World):
  (fs.mapM (fun f=>do pure (f.offset,<-sizeOf f.type):Field->Sem (Nat×Nat))).run P w= .ok (fs.map fun f=>(f.offset,(cJ P f.type).getD 0)) w:=by
 induction fs with
 |nil=>simp
 |cons f fs ih=>
  simp only[List.all_cons,aV]at hfs;obtain⟨h1,h2⟩:=hfs;obtain⟨z,hz⟩:=tU.1 h1;rw[xh];simp only[bT,cZ hz,Result.andThen,Sem.run_pure,ih h2,br,hz,Option.getD_some]
theorem vZ [ct P] (h:HR C hf wr w) {fs:Array Field} (ht:P.underlying t=some (.struct fs)) (hfs:fs.toList.all (fun f=>(cJ P f.type).isSome)=true) (hz:jT P t=some z) {a:Act} (hqs:NU P fs ps=some qs)
  (hta:TM P C tf a) {p:Prop} (hfill:sC z (qs.map fun(a,b,x)=>(a,b,x.ev tf))=some (cs,p)) (hp:p):
  dI P C hf wr base nm (vS (Instr.build t (ps.map fun(i,x)=>(i,a.eval x)))) w (jv cs) []:=by
 obtain⟨v,hv,hr,-⟩:=og (C:=C) hz;obtain⟨hl,hq⟩:=cC hqs;obtain⟨cs',h1,h2⟩:=H5 (C:=C) (fun i=>(fs.toList.map fun f=>(f.offset,(cJ P f.type).getD 0)).toArray[i]?) (ps.map fun(i,x)=>(i,a.eval x)).toList (qs.map fun(a,b,x)=>(a,b,x.ev tf)) z v.cells hr (by simp[hl])
  (by
   intro k p q hp hq';simp only[Du,gY,dM]at hp hq';obtain⟨⟨i,x⟩,hx,rfl⟩:=hp;obtain⟨⟨o,z,y⟩,hy,rfl⟩:=hq';have:=hq k _ _ hx hy;simp only[Option.bind_eq_bind,bu]at this;obtain⟨f,hf',z',hz',y',hy',he⟩:=this;simp only[ai,dJ]at he;obtain⟨rfl,rfl,rfl⟩:=he;refine⟨?_,bO hy' hta⟩;have hf2:fs.toList[i]?=some f:=by simpa using hf'
   simp[hf2,hz']) _ _ hfill hp
 have hrun:=we (P:=P) fs.toList hfs w;refine .val h (val:= .agg cs') ?_ ?_
 ·simp only[Instr.build,bT,hv,Result.andThen,run_underlying ht,wY,wV,hrun,h1,Sem.run_pure]
 ·have:=AR.jv (C:=C) h2;simpa using this
theorem yX [ct P] (h:HR C hf wr w) {cnt:Nat} (ht:P.underlying t=some (.array cnt e)) {sz:Nat} (hsz:cJ P e=some sz) (hz:jT P t=some z) {a:Act} (hqs:GQ P sz ps=some qs)
  (hta:TM P C tf a) {p:Prop} (hfill:sC z (qs.map fun(a,b,x)=>(a,b,x.ev tf))=some (cs,p)) (hp:p):
  dI P C hf wr base nm (vS (Instr.build t (ps.map fun(i,x)=>(i,a.eval x)))) w (jv cs) []:=by
 obtain⟨v,hv,hr,-⟩:=og (C:=C) hz;obtain⟨hl,hq⟩:=cC hqs;obtain⟨cs',h1,h2⟩:=H5 (C:=C) (fun i=>some (i*sz,sz)) (ps.map fun(i,x)=>(i,a.eval x)).toList (qs.map fun(a,b,x)=>(a,b,x.ev tf)) z v.cells hr (by simp[hl])
  (by
   intro k p q hp hq';simp only[Du,gY,dM]at hp hq';obtain⟨⟨i,x⟩,hx,rfl⟩:=hp;obtain⟨⟨o,z,y⟩,hy,rfl⟩:=hq';have:=hq k _ _ hx hy;simp only[Option.bind_eq_bind,bu]at this;obtain⟨y',hy',he⟩:=this;simp only[ai,dJ]at he;obtain⟨rfl,rfl,rfl⟩:=he;exact⟨rfl,bO hy' hta⟩) _ _ hfill hp
 refine .val h (val:= .agg cs') ?_ ?_
 ·simp only[Instr.build,bT,hv,Result.andThen,run_underlying ht,cZ hsz,h1,Sem.run_pure]
 ·have:=AR.jv (C:=C) h2;simpa using this
theorem mw {α:Type} (z:List α) (n k:Nat) (h:k<n*z.length):(List.replicate n z).flatten[k]?=z[k%z.length]?:=by
 induction n generalizing k with
 |zero=>simp at h
 |succ n ih=>
  rw[List.replicate_succ,List.flatten_cons,Dt]
  by_cases hk:k<z.length
  ·rw[ah hk,bM hk]
  ·rw[af hk,ih (k-z.length) (by rw[kz]at h;omega)]
   rw[<-Nat.mod_eq_sub_mod (by omega)]
theorem Vp (h:HR C hf wr w) (hnm: ¬C.al nm) (hwr: ∀b,base<=b->wr b) (hbase:base<=w.heap.size) (ht:P.underlying t=some (.slice e)) {i:TypeInfo} (hi:P.info? e=some i) (hz:jT P e=some z) (hpos:0<i.size) {kl kc:IntKind} {l c:Int} {x y:Value}
  (hx:AR C (.v (.i kl l)) x) (hy:AR C (.v (.i kc c)) y) (h0:0<=l) (hlc:l<=c) (hby:(i.bytes:Int)*c<=140737488355328) (hc:c<=140737488355328):
  dI P C hf wr base nm (vS (Instr.makeSlice t x y)) w (.rs nm 0 0 l.toNat z.length) [(nm,some ⟨0,(List.replicate c.toNat z).flatten,false,none⟩)]:=by
 have e1:=fJ hx;subst e1;have e1:=fJ hy;subst e1;have hz':=hz;unfold jT at hz';simp only[Option.bind_eq_bind,bu]at hz';obtain⟨i',hi',v,hv,hz'⟩:=hz';rw[hi]at hi';injection hi' with hi';subst hi'
 split at hz'
 ·rename_i hsz;obtain⟨m1,m2⟩:=cC hz';have hzl:z.length=i.size:=by rw[<-m1,<-hsz];simp
  have hrun:=run_make (P:=P) w t e i v ht hi hv kl kc l c h0 hlc (by omega) (by omega)
  have hsz2:(madeCells v.cells (c.toNat*i.size)).size=c.toNat*i.size:=size_madeCells _ _;have hfl:((List.replicate c.toNat z).flatten).length=c.toNat*i.size:=by simp[hzl]
  refine yY h hnm hwr hbase (.inl rfl) (vs:=madeCells v.cells (c.toNat*i.size)) (el:=e) (val:= .slice (some ⟨w.heap.size,0,none⟩) l.toNat c.toNat) (.inl (by simp only[vS,bT,hrun,Result.andThen,Sem.run_pure])) (by omega) (fun _=>by omega) ?_ ?_
  ·intro k x u hx hu;have hk:k<c.toNat*z.length:=by have:=(cv.1 hx).1;rw[hzl];omega
   rw[mw z _ _ hk]at hx;have hu':u=v.cells[k%v.cells.size]! :=by
    have hlt:k<(madeCells v.cells (c.toNat*i.size)).size:=by rw[hsz2];rw[hzl]at hk;exact hk
    rw[w9 hlt]at hu;injection hu with hu
    rw[<-hu];simp[madeCells]
   have hm:k%z.length<v.cells.size:=by rw[hzl,hsz];exact aL _ hpos
   have hu2:v.cells.toList[k%z.length]?=some u:=by
    rw[hu',hsz,<-hzl];have:v.cells[k%z.length]! =v.cells[k%z.length]:=by rw[getElem!_pos]
    rw[this];simp[hm]
   exact BU (m2 _ _ _ hu2 hx)
  ·refine .rs nm 0 0 l.toNat z.length _ 0 c.toNat (.inr rfl) (by simp[Cx.newObj]) (by omega) (.inr rfl) fun cc hcc=> ?_
   simp only[Cx.newObj,aA]at hcc⊢;refine⟨aT _,fun _=>⟨trivial,?_⟩⟩
   rw[hsz2,hzl];omega
 ·cases hz'
end
