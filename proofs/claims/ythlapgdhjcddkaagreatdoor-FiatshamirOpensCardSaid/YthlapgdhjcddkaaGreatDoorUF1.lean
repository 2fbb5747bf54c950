/- Part of the proof. -/
import Derived.Below
import Derived.Calls
set_option linter.all false
namespace Go
abbrev aa:=@if_neg
abbrev af:=@if_pos
abbrev aB:=@if_false
abbrev aC:=@if_true
abbrev aJ:=@absurd
abbrev aQ:=@decide_eq_true
abbrev aS:=@decide_eq_false
abbrev a8:=@decide_eq_true_eq
abbrev du:=@beq_eq_false_iff_ne
abbrev eY:=@beq_self_eq_true
abbrev fk:=@decide_eq_decide
abbrev fK:=@beq_iff_eq
abbrev iz:=@bne_self_eq_false
abbrev kM:=@decide_eq_false_iff_not
abbrev qw:=@not_true_eq_false
abbrev sF:=@true_and
abbrev E4:=@not_false_eq_true
abbrev ar:=@Option.some.injEq
abbrev au:=@List.length_map
abbrev aA:=@Nat.le_refl
abbrev aD:=@Nat.zero_le
abbrev aV:=@Nat.mod_lt
abbrev aY:=@Ne.symm
abbrev bc:=@Bool.and_eq_true
abbrev bu:=@List.getD_eq_getElem?_getD
abbrev bz:=@List.all_eq_true
abbrev b9:=@Option.bind_eq_some_iff
abbrev bm:=@List.take_length
abbrev br:=@Bool.false_and
abbrev bw:=@List.drop_length
abbrev bC:=@List.getElem?_eq_getElem
abbrev bE:=@Bool.true_and
abbrev bI:=@Go.Sem.run_bind
abbrev bM:=@Nat.lt_of_lt_of_le
abbrev bQ:=@List.length_take
abbrev bR:=@List.length_append
abbrev bV:=@Nat.mod_eq_of_lt
abbrev b8:=@List.map_cons
abbrev cb:=@List.map_nil
abbrev cd:=@Nat.le_of_ble_eq_true
abbrev cu:=@Bool.eq_iff_iff
abbrev cv:=@Nat.mul_comm
abbrev cx:=@List.mem_map
abbrev cE:=@Bool.false_eq_true
abbrev cM:=@List.mem_cons
abbrev cQ:=@List.take_of_length_le
abbrev db:=@Nat.mul_mod
abbrev dc:=@List.getElem?_eq_some_iff
abbrev de:=@Nat.mul_assoc
abbrev dp:=@Nat.pow_le_pow_right
abbrev dr:=@Nat.mul_one
abbrev dt:=@List.length_eq_zero_iff
abbrev dy:=@Bool.not_true
abbrev dD:=@Nat.pow_add
abbrev dF:=@Bool.and_self
abbrev dK:=@Nat.add_mul
abbrev dQ:=@Nat.mul_le_mul_right
abbrev dR:=@Bool.eq_false_iff
abbrev dW:=@Bool.not_false
abbrev eg:=@List.append_assoc
abbrev eH:=@Bool.false_or
abbrev eJ:=@Prod.mk.injEq
abbrev eP:=@Option.map_eq_some_iff
abbrev eQ:=@Nat.mod_mod
abbrev eR:=@Nat.lt_of_le_of_lt
abbrev eS:=@List.getElem?_take
abbrev eX:=@Nat.zero_add
abbrev fa:=@List.mem_singleton
abbrev ff:=@Nat.div_div_eq_div_mul
abbrev ft:=@List.flatMap_cons
abbrev fw:=@Nat.le_trans
abbrev fx:=@Nat.div_le_self
abbrev fy:=@List.getElem?_map
abbrev fF:=@Array.ext'
abbrev fT:=@Nat.mul_lt_mul''
abbrev fU:=@List.getElem_of_mem
abbrev fV:=@List.mem_range
abbrev fW:=@Bool.not_eq_true'
abbrev gA:=@List.getD_cons_succ
abbrev gD:=@Nat.sub_self
abbrev gF:=@List.length_pos_iff
abbrev gG:=@List.drop_of_length_le
abbrev iA:=@List.mem_append
abbrev iI:=@Bool.true_or
abbrev iJ:=@Nat.pow_pos
abbrev iK:=@List.map_map
abbrev iL:=@Nat.one_mul
abbrev iM:=@Nat.add_comm
abbrev iZ:=@Nat.div_eq_of_lt
abbrev ja:=@Iff.rfl
abbrev jc:=@Nat.div_add_mod
abbrev jd:=@UInt8.toNat_ofNat'
abbrev je:=@Nat.div_lt_iff_lt_mul
abbrev jt:=@Nat.mod_mul_mod
abbrev ju:=@List.mem_cons_of_mem
abbrev jv:=@List.mem_of_getElem?
abbrev jw:=@Array.getD_eq_getD_getElem?
abbrev jx:=@Nat.div_one
abbrev jy:=@List.mem_flatMap
abbrev jz:=@Int.emod_nonneg
abbrev jZ:=@List.length_set
abbrev j5:=@Nat.lt_trans
abbrev j6:=@List.append_nil
abbrev j7:=@List.getElem_mem
abbrev j8:=@Nat.pow_mod
abbrev kN:=@Nat.mul_add
abbrev kO:=@List.getD_cons_zero
abbrev kP:=@UInt8.toNat_inj
abbrev kQ:=@Int.emod_lt_of_pos
abbrev kR:=@Nat.pow_mul
abbrev lB:=@Nat.gcd_comm
abbrev lC:=@Go.World.cell?_of_block
abbrev lD:=@Nat.mul_le_mul
abbrev lH:=@Nat.le_of_lt
abbrev lJ:=@Nat.succ_mul
abbrev lK:=@BitVec.toNat_ofNat
abbrev lL:=@List.eq_nil_of_length_eq_zero
abbrev jN:=@List.not_mem_nil
abbrev jO:=@List.flatMap_map
abbrev jP:=@Nat.add_mod
abbrev jQ:=@Nat.add_assoc
abbrev jR:=@Nat.mul_le_mul_left
abbrev kG:=@List.mem_of_mem_take
abbrev kH:=@Nat.eq_zero_or_pos
abbrev kI:=@Nat.not_lt_zero
abbrev kJ:=@List.drop_eq_getElem_cons
abbrev kK:=@List.any_eq_false
abbrev kL:=@Array.getElem?_eq_some_iff
abbrev l9:=@Nat.testBit_eq_decide_div_mod_eq
abbrev mb:=@List.getElem?_drop
abbrev mc:=@List.length_drop
abbrev me:=@Bool.and_true
abbrev mf:=@List.getElem?_range
abbrev mi:=@List.getElem?_eq_none
abbrev mQ:=@Nat.gcd_rec
abbrev mR:=@List.map_append
abbrev mS:=@List.mem_cons_self
abbrev mT:=@Nat.mod_one
abbrev mU:=@Bool.and_false
abbrev mV:=@Int.mul_add
abbrev mW:=@List.map_congr_left
abbrev mX:=@List.size_toArray
abbrev mY:=@Int.mul_assoc
abbrev mZ:=@Int.natAbs_mul
abbrev m9:=@List.any_eq_true
abbrev oP:=@Int.mul_neg
abbrev oQ:=@List.mapIdx_cons
abbrev oS:=@Nat.min_eq_left
abbrev oU:=@Int.emod_add_mul_ediv
abbrev oV:=@Nat.mul_mod_mod
abbrev oW:=@Option.some.inj
abbrev oX:=@Int.toNat_of_nonneg
abbrev oY:=@Nat.lt_irrefl
abbrev oZ:=@Nat.add_mul_div_left
abbrev qk:=@List.length_range
abbrev ql:=@Nat.mod_mul
abbrev qm:=@Array.mem_of_getElem?
abbrev qn:=@Nat.lt_or_ge
abbrev qo:=@Nat.mul_pos
abbrev qp:=@Nat.le_succ
abbrev qt:=@List.length_eq_one_iff
abbrev qu:=@List.mem_of_mem_drop
abbrev qv:=@Int.mul_sub
abbrev r9:=@List.getElem?_append_right
abbrev sf:=@Nat.mod_mul_right_div_self
abbrev si:=@Nat.pow_lt_pow_iff_right
abbrev sk:=@Int.add_mul_emod_self_left
abbrev sr:=@List.getElem?_append_left
abbrev ss:=@List.nodup_cons
abbrev su:=@Int.mul_comm
abbrev sw:=@Nat.two_mul
abbrev sy:=@Nat.mul_pow
abbrev sA:=@Nat.div_mul_le_self
abbrev sB:=@Nat.add_sub_cancel
abbrev sC:=@Nat.lt_succ_self
abbrev sD:=@Go.RowKit.Below.refl
abbrev sE:=@Go.IntKind.wrap_u8
abbrev vw:=@Bool.or_true
abbrev vz:=@Array.getElem?_modify
abbrev vA:=@Nat.mod_mod_of_dvd
abbrev vC:=@Bool.or_false
abbrev vD:=@Nat.le_div_iff_mul_le
abbrev vE:=@List.drop_take
abbrev vF:=@List.map_set
abbrev vG:=@Option.isSome_iff_exists
abbrev vH:=@Decidable.byContradiction
abbrev vI:=@Nat.lt_log2_self
abbrev vJ:=@Nat.zero_mul
abbrev vK:=@Array.getElem?_append_left
abbrev vL:=@List.map_drop
abbrev vM:=@Bool.or_eq_true
abbrev vO:=@List.ext_getElem
abbrev vP:=@Int.neg_mul
abbrev vQ:=@List.flatMap_append
abbrev vR:=@List.ext_getElem?
abbrev vT:=@List.take_append_drop
abbrev yH:=@UInt8.lt_iff_toNat_lt
abbrev yI:=@Nat.mul_add_div
abbrev yJ:=@Array.getElem?_setIfInBounds_ne
abbrev yK:=@Go.MapKept.run_findKey
abbrev yL:=@List.drop_drop
abbrev yM:=@List.getElem?_set
abbrev yN:=@Go.MapKept.run_getObj_map
abbrev yO:=@List.set_eq_take_append_cons_drop
abbrev yP:=@Nat.add_mul_mod_self_left
abbrev yQ:=@Array.getElem?_eq_getElem
abbrev yR:=@Int.zero_add
abbrev yS:=@List.map_take
abbrev yT:=@Nat.lt_trichotomy
abbrev yU:=@Int.ediv_eq_zero_of_lt
abbrev yV:=@Nat.log2_lt
abbrev yW:=@Nat.one_pow
abbrev yX:=@Bool.or_eq_false_iff
abbrev yY:=@Nat.pow_succ'
abbrev yZ:=@Go.Sem.run_map
abbrev y5:=@Bool.not_not
abbrev y7:=@List.drop_zero
abbrev y8:=@Nat.mul_right_comm
abbrev y9:=@Nat.exists_eq_add_of_le
abbrev za:=@Array.mapM_eq_mapM_toList
abbrev zd:=@List.mapM_cons
abbrev zf:=@UInt8.toNat.inj
abbrev zk:=@Int.add_mul_ediv_left
abbrev zm:=@Int.mul_zero
abbrev Et:=@List.take_append
abbrev Eu:=@List.mem_filterMap
abbrev Ev:=@Array.any_eq_false
abbrev Ew:=@List.replicate_succ'
abbrev Ex:=@List.getElem?_append
abbrev Ey:=@List.erase_cons_tail
abbrev Ez:=@Int.natCast_dvd_natCast
abbrev EA:=@List.range_eq_range'
abbrev EB:=@Array.getElem_of_mem
abbrev EC:=@Nat.mul_left_comm
abbrev ED:=@Nat.gcd_dvd_left
abbrev EE:=@List.getElem?_zip_eq_some
abbrev EF:=@Int.ediv_emod_unique
abbrev EG:=@List.set_append_right
abbrev EH:=@Nat.pow_lt_pow_right
abbrev EI:=@List.length_replicate
abbrev EJ:=@List.eraseIdx_of_length_le
abbrev EK:=@Bool.false_ne_true
abbrev EL:=@Nat.gcd_zero_right
abbrev EM:=@Nat.gcd_dvd_right
abbrev EN:=@Bool.and_eq_false_iff
abbrev EO:=@Nat.mul_mod_mul_right
abbrev EP:=@Nat.two_pow_pos
abbrev ER:=@Nat.le_add_right
abbrev ES:=@Nat.le_mul_of_pos_left
abbrev ET:=@Array.toList_map
abbrev EU:=@Nat.mul_lt_mul_of_pos_right
abbrev EV:=@Nat.mul_div_cancel
abbrev EW:=@Nat.pow_dvd_pow
abbrev EX:=@Nat.le_antisymm
abbrev EY:=@List.getElem_map
abbrev EZ:=@Nat.gcd_le_right
abbrev E0:=@Int.mul_left_comm
abbrev J4:=@Int.ediv_neg_of_neg_of_pos
abbrev J5:=@Nat.two_pow_add_eq_or_of_lt
abbrev J6:=@List.take_succ_eq_append_getElem
abbrev J7:=@Nat.mul_lt_mul_of_pos_left
abbrev J8:=@Nat.and_two_pow_sub_one_eq_mod
abbrev J9:=@Int.fdiv_eq_ediv_of_nonneg
end Go
namespace Go.Dom
open Go.RowKit
abbrev Bytes:=List UInt8
inductive PV where
 |b (x:Bool)
 |i (k:IntKind) (n:Int)
 |s (x:Bytes)
 |agg (l:List PV)
 |tup (l:List PV)
 |sl (l:List PV)
 |fn (f:Fn)
 |fn0
 |p0
 |if0
 |ifc (t:TypeId) (v:PV)
 |pt (x:PV) (o:Nat)
 |fc (f:FuncId) (a c:List PV)
 deriving Inhabited
def PV.cells:PV->List PV
 | .agg l=>l
 |x=>[x]
def PV.one:PV->Bool
 | .agg _=>false
 | .tup _=>false
 | _=>true
abbrev Rd:=Nat->Nat->Option Value
inductive PR (rd:Rd):PV->Value->Prop where
 |b (x:Bool):PR rd (.b x) (.bool x)
 |i (k:IntKind) (n:Int):PR rd (.i k n) (.int k n)
 |s (x:Bytes):PR rd (.s x) (.string ⟨x.toArray⟩)
 |agg (l:List PV) (vs:List Value) (h1: ∀x∈l,x.one=true) (hl:l.length=vs.length) (h: ∀(k:Nat) (x:PV) (v:Value),l[k]?=some x->vs[k]?=some v->PR rd x v):PR rd (.agg l) (.agg vs.toArray)
 |tup (l:List PV) (vs:List Value) (hl:l.length=vs.length) (h: ∀(k:Nat) (x:PV) (v:Value),l[k]?=some x->vs[k]?=some v->PR rd x v):PR rd (.tup l) (.tuple vs.toArray)
 |sl0:PR rd (.sl []) (.slice none 0 0)
 |sle (a:Addr) (cap:Nat):PR rd (.sl []) (.slice (some a) 0 cap)
 |sl (l:List PV) (z:Nat) (vs:List Value) (bk of cap:Nat) (hc:l.length<=cap) (hz: ∀x∈l,x.cells.length=z) (h1: ∀y∈l.flatMap PV.cells,y.one=true)
   (hl:(l.flatMap PV.cells).length=vs.length)
   (hr: ∀(k:Nat) (v:Value),vs[k]?=some v->rd bk (of+k)=some v)
   (h: ∀(k:Nat) (x:PV) (v:Value),(l.flatMap PV.cells)[k]?=some x->vs[k]?=some v->PR rd x v):
   PR rd (.sl l) (.slice (some ⟨bk,of,none⟩) l.length cap)
 |fn (f:Fn):PR rd (.fn f) (.func f #[] #[])
 |fn0:PR rd .fn0 .nilFunc
 |p0:PR rd .p0 (.pointer none)
 |if0:PR rd .if0 .nilIface
 |ifc (t:TypeId) (x:PV) (v:Value) (h:PR rd x v):PR rd (.ifc t x) (.iface t v)
 |pt (x:PV) (o:Nat) (vs:List Value) (bk of:Nat) (h1: ∀y∈x.cells,y.one=true) (hl:x.cells.length=vs.length)
   (hr: ∀(k:Nat) (v:Value),vs[k]?=some v->rd bk (of+k)=some v)
   (h: ∀(k:Nat) (y:PV) (v:Value),x.cells[k]?=some y->vs[k]?=some v->PR rd y v):PR rd (.pt x o) (.pointer (some ⟨bk,of+o,none⟩))
 |fc (f:FuncId) (a c:List PV) (va vc:List Value) (hla:a.length=va.length) (hlc:c.length=vc.length)
   (ha: ∀(k:Nat) (x:PV) (v:Value),a[k]?=some x->va[k]?=some v->PR rd x v)
   (hc: ∀(k:Nat) (x:PV) (v:Value),c[k]?=some x->vc[k]?=some v->PR rd x v):PR rd (.fc f a c) (.func (.func f) va.toArray vc.toArray)
theorem PR.mono {rd rd':Rd} (hr: ∀b o v,rd b o=some v->rd' b o=some v) {x:PV} {v:Value} (h:PR rd x v):PR rd' x v:=by
 induction h with
 |b x=>exact .b x
 |i k n=>exact .i k n
 |s x=>exact .s x
 |agg l vs h1 hl _ ih=>exact .agg l vs h1 hl ih
 |tup l vs hl _ ih=>exact .tup l vs hl ih
 |sl0=>exact .sl0
 |sle a cap=>exact .sle a cap
 |sl l z vs bk of cap hc hz h1 hl hrd _ ih=>exact .sl l z vs bk of cap hc hz h1 hl (fun k v hv=>hr _ _ _ (hrd k v hv)) ih
 |fn f=>exact .fn f
 |fn0=>exact .fn0
 |p0=>exact .p0
 |if0=>exact .if0
 |ifc t x v _ ih=>exact .ifc t x v ih
 |pt x o vs bk of h1 hl hrd _ ih=>exact .pt x o vs bk of h1 hl (fun k v hv=>hr _ _ _ (hrd k v hv)) ih
 |fc f a c va vc hla hlc _ _ iha ihc=>exact .fc f a c va vc hla hlc iha ihc
inductive AV where
 |v (x:PV)
 |p (n ver o:Nat)
 |pp (x:PV) (o:Nat)
 |rs (n ver o len z:Nat)
 |fs (l:List PV)
 |sn
 |agg (l:List AV)
 |tup (l:List AV)
 |fn (f:Fn) (a c:List AV)
 |ub
 |mp (n:Nat)
 |u
 deriving Inhabited
def AV.one:AV->Bool
 | .v x=>x.one
 | .agg _=>false
 | .tup _=>false
 | .u=>false
 | _=>true
def AV.ph:AV->Bool
 | .v (.tup _)=>false
 | .v _=>true
 | .agg l=>l.all AV.one
 | .tup _=>false
 | .u=>false
 | _=>true
def AV.cells:AV->List AV
 | .agg l=>l
 | .v (.agg l)=>l.map .v
 |x=>[x]
structure Cx where
 rd:Rd
 al:Nat->Prop
 cur:Nat->Option Nat
 mu:Nat->Nat
 sz:Nat->Nat
 mpn:Nat->Bool
inductive AR (C:Cx):AV->Value->Prop where
 |v {x:PV} {w:Value} (h:PR C.rd x w):AR C (.v x) w
 |p (n ver o b:Nat) (ha:C.al n) (hk:C.mpn n=false) (h: ∀c,C.cur n=some c->ver<=c/\(ver=c->b=C.mu n)):AR C (.p n ver o) (.pointer (some ⟨b,o,none⟩))
 |pp (x:PV) (o:Nat) (vs:List Value) (bk of:Nat) (h1: ∀y∈x.cells,y.one=true) (hl:x.cells.length=vs.length)
   (hr: ∀(k:Nat) (v:Value),vs[k]?=some v->C.rd bk (of+k)=some v)
   (h: ∀(k:Nat) (y:PV) (v:Value),x.cells[k]?=some y->vs[k]?=some v->PR C.rd y v):AR C (.pp x o) (.pointer (some ⟨bk,of+o,none⟩))
 |rs (n ver o len z b o' cap:Nat) (ha:C.al n) (hk:C.mpn n=false) (hc:len<=cap) (ho:cap=0\/o'=o)
   (h: ∀c,C.cur n=some c->ver<=c/\(ver=c->b=C.mu n/\o+cap*z<=C.sz n)):AR C (.rs n ver o len z) (.slice (some ⟨b,o',none⟩) len cap)
 |fs (l:List PV) (a:Option Addr) (h:PR C.rd (.sl l) (.slice a l.length l.length)):AR C (.fs l) (.slice a l.length l.length)
 |sn:AR C .sn (.slice none 0 0)
 |agg (l:List AV) (vs:List Value) (hl:l.length=vs.length) (h: ∀(k:Nat) (x:AV) (v:Value),l[k]?=some x->vs[k]?=some v->AR C x v):AR C (.agg l) (.agg vs.toArray)
 |tup (l:List AV) (vs:List Value) (hl:l.length=vs.length) (h: ∀(k:Nat) (x:AV) (v:Value),l[k]?=some x->vs[k]?=some v->AR C x v):AR C (.tup l) (.tuple vs.toArray)
 |fn (f:Fn) (a c:List AV) (va vc:List Value) (hla:a.length=va.length) (hlc:c.length=vc.length)
   (ha: ∀(k:Nat) (x:AV) (v:Value),a[k]?=some x->va[k]?=some v->AR C x v)
   (hc: ∀(k:Nat) (x:AV) (v:Value),c[k]?=some x->vc[k]?=some v->AR C x v):AR C (.fn f a c) (.func f va.toArray vc.toArray)
 |ub (x:Bool):AR C .ub (.bool x)
 |mp (n b:Nat) (ha:C.al n) (hk:C.mpn n=true) (h: ∀c,C.cur n=some c->b=C.mu n):AR C (.mp n) (.map (some b))
 |u (w:Value):AR C .u w
structure Cx.Le (C D:Cx):Prop where
 rd: ∀b o v,C.rd b o=some v->D.rd b o=some v
 al: ∀n,C.al n->D.al n
 cur: ∀n,C.al n-> ∀d,D.cur n=some d-> ∃c,C.cur n=some c/\c<=d/\(c=d->D.mu n=C.mu n/\D.sz n=C.sz n)
 mpn: ∀n,C.al n->D.mpn n=C.mpn n/\(C.mpn n=true->D.mu n=C.mu n)
theorem Cx.Le.refl (C:Cx):C.Le C:=⟨fun _ _ _ h=>h,fun _ h=>h,fun _ _ d h=>⟨d,h,aA _,fun _=>⟨rfl,rfl⟩⟩,fun _ _=>⟨rfl,fun _=>rfl⟩⟩
theorem Cx.Le.trans {C D E:Cx} (h:C.Le D) (k:D.Le E):C.Le E:=by
 refine⟨fun b o v hv=>k.rd _ _ _ (h.rd _ _ _ hv),fun n hn=>k.al _ (h.al _ hn),fun n hn e he=> ?_,fun n hn=>⟨(k.mpn n (h.al n hn)).1.trans (h.mpn n hn).1,fun ht=>((k.mpn n (h.al n hn)).2 ((h.mpn n hn).1.trans ht)).trans ((h.mpn n hn).2 ht)⟩⟩
 obtain⟨d,hd,hde,hd'⟩:=k.cur n (h.al n hn) e he;obtain⟨c,hc,hcd,hc'⟩:=h.cur n hn d hd;refine⟨c,hc,fw hcd hde,fun heq=> ?_⟩
 have h1:c=d:=by omega
 have h2:d=e:=by omega
 obtain⟨m1,s1⟩:=hc' h1;obtain⟨m2,s2⟩:=hd' h2;exact⟨m2.trans m1,s2.trans s1⟩
theorem AR.mono {C D:Cx} (hle:C.Le D) {x:AV} {w:Value} (h:AR C x w):AR D x w:=by
 induction h with
 |v h=>exact .v (h.mono hle.rd)
 |p n ver o b ha hk h=>
  refine .p n ver o b (hle.al _ ha) ((hle.mpn n ha).1.trans hk) fun d hd=> ?_
  obtain⟨c,hc,hcd,hm⟩:=hle.cur n ha d hd;obtain⟨h1,h2⟩:=h c hc;refine⟨by omega,fun hv=> ?_⟩
  obtain⟨hmu,-⟩:=hm (by omega)
  rw[hmu];exact h2 (by omega)
 |pp x o vs bk of h1 hl hr h=>exact .pp x o vs bk of h1 hl (fun k v hv=>hle.rd _ _ _ (hr k v hv)) (fun k y v hy hv=>(h k y v hy hv).mono hle.rd)
 |rs n ver o len z b o' cap ha hk hc ho h=>
  refine .rs n ver o len z b o' cap (hle.al _ ha) ((hle.mpn n ha).1.trans hk) hc ho fun d hd=> ?_
  obtain⟨c,hc,hcd,hm⟩:=hle.cur n ha d hd;obtain⟨h1,h2⟩:=h c hc;refine⟨by omega,fun hv=> ?_⟩
  obtain⟨hmu,hsz⟩:=hm (by omega)
  rw[hmu,hsz];exact h2 (by omega)
 |fs l a h=>exact .fs l a (h.mono hle.rd)
 |sn=>exact .sn
 |agg l vs hl _ ih=>exact .agg l vs hl ih
 |tup l vs hl _ ih=>exact .tup l vs hl ih
 |fn f a c va vc hla hlc _ _ iha ihc=>exact .fn f a c va vc hla hlc iha ihc
 |ub x=>exact .ub x
 |mp n b ha hk h=>
  refine .mp n b (hle.al _ ha) ((hle.mpn n ha).1.trans hk) fun d hd=> ?_
  obtain⟨c,hc,-,-⟩:=hle.cur n ha d hd;rw[(hle.mpn n ha).2 hk];exact h c hc
 |u w=>exact .u w
def PV.nz:PV->AV
 | .b x=> .v (.b x)
 | .i k n=> .v (.i k n)
 | .s x=> .v (.s x)
 | .agg l=> .v (.agg l)
 | .tup l=> .v (.tup l)
 | .sl l=> .v (.sl l)
 | .fn f=> .v (.fn f)
 | .fn0=> .v .fn0
 | .p0=> .v .p0
 | .if0=> .v .if0
 | .ifc t v=> .v (.ifc t v)
 | .pt x o=> .pp x o
 | .fc f a c=> .fn (.func f) (a.map .v) (c.map .v)
def AV.nz:AV->AV
 | .v x=>x.nz
 | .p n ver o=> .p n ver o
 | .pp x o=> .pp x o
 | .rs n ver o len z=> .rs n ver o len z
 | .fs l=> .fs l
 | .sn=> .sn
 | .agg l=> .agg l
 | .tup l=> .tup l
 | .fn f a c=> .fn f a c
 | .ub=> .ub
 | .mp n=> .mp n
 | .u=> .u
theorem AR.nz {C:Cx} {x:AV} {v:Value} (h:AR C x v):AR C x.nz v:=by
 cases h with
 |v h=>
  cases h with
  |pt x o vs bk of h1 hl hr h=>exact .pp x o vs bk of h1 hl hr h
  |fc f a c va vc hla hlc ha hc=>
   refine .fn _ _ _ va vc (by simpa using hla) (by simpa using hlc) (fun k y w hy hw=> ?_) (fun k y w hy hw=> ?_)
   ·simp only[fy,eP]at hy;obtain⟨z,hz,rfl⟩:=hy;exact .v (ha k z w hz hw)
   ·simp only[fy,eP]at hy;obtain⟨z,hz,rfl⟩:=hy;exact .v (hc k z w hz hw)
  |b x=>exact .v (.b x)
  |i k n=>exact .v (.i k n)
  |s x=>exact .v (.s x)
  |agg l vs h1 hl h=>exact .v (.agg l vs h1 hl h)
  |tup l vs hl h=>exact .v (.tup l vs hl h)
  |sl0=>exact .v .sl0
  |sle a cap=>exact .v (.sle a cap)
  |sl l z vs bk of cap hc hz h1 hl hr h=>exact .v (.sl l z vs bk of cap hc hz h1 hl hr h)
  |fn f=>exact .v (.fn f)
  |fn0=>exact .v .fn0
  |p0=>exact .v .p0
  |if0=>exact .v .if0
  |ifc t x v h=>exact .v (.ifc t x v h)
 |p n ver o b ha hk h=>exact .p n ver o b ha hk h
 |pp x o vs bk of h1 hl hr h=>exact .pp x o vs bk of h1 hl hr h
 |rs n ver o len z b o' cap ha hk hc ho h=>exact .rs n ver o len z b o' cap ha hk hc ho h
 |fs l a h=>exact .fs l a h
 |sn=>exact .sn
 |agg l vs hl h=>exact .agg l vs hl h
 |tup l vs hl h=>exact .tup l vs hl h
 |fn f a c va vc hla hlc ha hc=>exact .fn f a c va vc hla hlc ha hc
 |ub x=>exact .ub x
 |mp n b ha hk h=>exact .mp n b ha hk h
 |u=>exact .u _
structure aI where
 ver:Nat
 cells:List AV
 gr:Bool
 el:Option TypeId
inductive MR (rd:Rd):List AV->List MapEntry->Prop where
 |nil:MR rd [] []
 |cons (k v:PV) (l:List AV) (e:MapEntry) (es:List MapEntry) (h1:PR rd k e.key) (h2:PR rd v e.val) (h:MR rd l es):MR rd (.v k:: .v v::l) (e::es)
theorem MR.mono {rd rd':Rd} (hr: ∀b o v,rd b o=some v->rd' b o=some v) {l:List AV} {es:List MapEntry} (h:MR rd l es):MR rd' l es:=by
 induction h with
 |nil=>exact .nil
 |cons k v l e es h1 h2 _ ih=>exact .cons k v l e es (h1.mono hr) (h2.mono hr) ih
structure HR (C:Cx) (hf:Nat->Option aI) (wr:Nat->Prop) (w:World):Prop where
 rdw: ∀b o v,C.rd b o=some v->w.cell? ⟨b,o,none⟩=some v
 live: ∀n ob,hf n=some ob->C.al n/\C.cur n=some ob.ver
 dead: ∀n,hf n=none->C.cur n=none
 sep: ∀n ob,hf n=some ob-> ∀k,C.rd (C.mu n) k=none
 inj: ∀n m ob oc,hf n=some ob->hf m=some oc->C.mu n=C.mu m->n=m
 wr: ∀n ob,hf n=some ob->wr (C.mu n)
 obj: ∀n ob,hf n=some ob->C.mpn n=false-> ∃cs el,w.heap[C.mu n]?=some (.cells cs el (0,0))/\cs.size=C.sz n/\ob.cells.length<=cs.size/\
  (ob.gr=false->ob.cells.length=cs.size)/\ ∀(k:Nat) (x:AV) (v:Value),ob.cells[k]?=some x->cs[k]?=some v->AR C x v
 typ: ∀n ob,hf n=some ob->C.mpn n=false-> ∀t,ob.el=some t-> ∃cs,w.heap[C.mu n]?=some (.cells cs t (0,0))
 mp: ∀n ob,hf n=some ob->C.mpn n=true-> ∃es clk,w.heap[C.mu n]?=some (.map es clk)/\MR C.rd ob.cells es.toList
inductive SX where
 |t (n:Nat)
 |c (v:AV)
def SX.ev (tf:Nat->AV):SX->AV
 | .t n=>tf n
 | .c v=>v
inductive SO where
 |mov (x:SX)
 |pick (c a b:SX)
 |alloc (t:TypeId) (z:List AV)
 |box (x:SX)
 |build (z:List AV) (ps:List (Nat×Nat×SX))
 |bsl (w:Bool) (z:Nat) (ps:List SX)
 |ld (ag:Bool) (z:Nat) (x:SX)
 |st (z:Nat) (a x:SX)
 |bin (op:BinOp) (x y:SX)
 |beq (ng:Bool) (x y:SX)
 |ceq (ng:Bool) (ks:List Nat) (x y:SX)
 |un (op:UnOp) (x:SX)
 |cvi (k:IntKind) (x:SX)
 |cvs (x:SX)
 |b2s (x:SX)
 |s2b (x:SX)
 |mks (z:List AV) (by_:Nat) (l c:SX)
 |slS (x:SX) (lo hi:Option SX)
 |slL (z:Nat) (x:SX) (lo hi mx:Option SX)
 |slA (n z:Nat) (x:SX) (lo hi mx:Option SX)
 |fad (o:Nat) (x:SX)
 |fld (ag:Bool) (o z:Nat) (x:SX)
 |ixs (z:Nat) (x i:SX)
 |ixa (n z:Nat) (x i:SX)
 |ixS (x i:SX)
 |ixV (ag:Bool) (n z:Nat) (x i:SX)
 |ext (x:SX) (k:Nat)
 |len (x:SX)
 |lenS (x:SX)
 |lenA (n:Nat)
 |mm (mx:Bool) (x y:SX)
 |app (e:TypeId) (z by_:Nat) (x y:SX)
 |cpy (z:Nat) (x y:SX)
 |call (f:SX) (args:List SX)
 |mkf (f:Fn) (a c:List SX)
 |nck (x:SX)
 |mki (t:TypeId) (x:SX)
 |peq (ng:Bool) (x y:SX)
 |cvp (ok:TypeId->Nat->Nat->Bool) (x:SX)
 |sld (x:SX)
 |ust (e:TypeId) (x y:SX)
 |clr (z:List AV) (x:SX)
 |snl (ng:Bool) (x:SX)
 |mkm
 |mget (c st:Bool) (z:PV) (x k:SX)
 |mset (st:Bool) (x k v:SX)
 |stop
structure j9 where
 d:Option Nat
 o:SO
 g:Option (Nat×Bool)
inductive SC where
 |skip
 |reg (bf:Option (List Nat)) (ops:List j9)
 |seq (a b:SC)
 |cond (x:SX) (a b:SC)
 |blk (id:Nat) (a:SC)
 |loop (a:SC)
 |rng (x:SX) (ps:List Nat) (a b:SC)
 |exit (id:Nat)
 |ret
 |stop
def bA {α β:Type} (g:α->Option β):List α->Option (List β)
 |[]=>some []
 |x::r=>match g x,bA g r with
  |some y,some ys=>some (y::ys)
  | _,_=>none
def chunk (z:Nat):Nat->List PV->List PV
 |0,_=>[]
 |n+1,l=>(if z=1 then(l.headD .fn0)else .agg (l.take z))::chunk z n (l.drop z)
def AV.L7:AV->Option PV
 | .v x=>some x
 | .fs l=>some (.sl l)
 | .sn=>some (.sl [])
 | .pp x o=>some (.pt x o)
 | _=>none
def HP:Fn->Option (List PV)->Option (List PV)->Option PV
 |f,some [],some []=>some (.fn f)
 | .func f,some a,some c=>some (.fc f a c)
 | _,_,_=>none
def AV.AZ:AV->Option PV
 | .v x=>some x
 | .fs l=>some (.sl l)
 | .sn=>some (.sl [])
 | .pp x o=>some (.pt x o)
 | .fn f a c=>HP f (bA AV.L7 a) (bA AV.L7 c)
 | _=>none
def kp (l:List AV):AV:=
 match bA (fun x=>match x with| .v y=>if y.one then some y else none| _=>none) l with
 |some ys=> .v (.agg ys)
 |none=> .agg l
def view (hf:Nat->Option aI):Nat->AV->Option PV
 |0,_=>none
 | _+1, .v x=>some x
 | _+1, .fs l=>some (.sl l)
 | _+1, .sn=>some (.sl [])
 | _+1, .pp x o=>some (.pt x o)
 |f+1, .fn g a c=>HP g (bA (view hf f) a) (bA (view hf f) c)
 |f+1, .p n ver o=>match hf n with
  |some ob=>if ob.ver=ver/\ob.cells.all AV.one then(bA (view hf f) ob.cells).map fun cs=> .pt (.agg cs) o else none
  |none=>none
 |f+1, .agg l=>if l.all AV.one then(bA (view hf f) l).map .agg else none
 |f+1, .tup l=>(bA (view hf f) l).map .tup
 |f+1, .rs n ver o len z=>match hf n with
  |some ob=>if ob.ver=ver/\o+len*z<=ob.cells.length/\((ob.cells.drop o).take (len*z)).all AV.one then
    (bA (view hf f) ((ob.cells.drop o).take (len*z))).map fun cs=> .sl (chunk z len cs)else none
  |none=>none
 | _+1,_=>none
def aW (hf:Nat->Option aI):Nat->AV->List Nat
 |0,_=>[]
 |f+1, .fn _ a c=>a.flatMap (aW hf f)++c.flatMap (aW hf f)
 |f+1, .p n _ _=>n::match hf n with
  |some ob=>ob.cells.flatMap (aW hf f)
  |none=>[]
 |f+1, .agg l=>l.flatMap (aW hf f)
 |f+1, .tup l=>l.flatMap (aW hf f)
 |f+1, .rs n _ o len z=>n::match hf n with
  |some ob=>((ob.cells.drop o).take (len*z)).flatMap (aW hf f)
  |none=>[]
 | _+1,_=>[]
def PV.flat:PV->Bool
 | .agg l=>flatL l
 | .tup l=>flatL l
 | .sl _=>false
 | .ifc _ v=>v.flat
 | .pt _ _=>false
 | .fc _ _ _=>false
 | _=>true
where flatL:List PV->Bool
 |[]=>true
 |x::r=>x.flat&&flatL r
structure AO where
 v:AV
 pre:Prop
 rs:List Nat
 up:List (Nat×Option aI)
def dP (v:AV):Option AO:=some ⟨v,True,[],[]⟩
def eu (v:AV) (p:Prop):Option AO:=some ⟨v,p,[],[]⟩
def nE (k:IntKind) (a b:Int):Int:=k.wrap (BitVec.ofInt k.bits a&&&BitVec.ofInt k.bits b).toNat
def HJ (k:IntKind) (a b:Int):Int:=k.wrap (BitVec.ofInt k.bits a|||BitVec.ofInt k.bits b).toNat
def FV (k:IntKind) (a b:Int):Int:=k.wrap (BitVec.ofInt k.bits a^^^BitVec.ofInt k.bits b).toNat
def Jl (k:IntKind) (a b:Int):Int:=k.wrap (BitVec.ofInt k.bits a&&& ~~~BitVec.ofInt k.bits b).toNat
def SN (op:BinOp) (k:IntKind) (a:Int) (k':IntKind) (b:Int):Option AO:=
 match op with
 | .shl=>eu (.v (.i k (k.wrap (a*2^min b.toNat k.bits)))) (0<=b)
 | .shr=>eu (.v (.i k (a.fdiv (2^min b.toNat k.bits)))) (0<=b)
 | .add=>eu (.v (.i k (k.wrap (a+b)))) (k=k')
 | .sub=>eu (.v (.i k (k.wrap (a-b)))) (k=k')
 | .mul=>eu (.v (.i k (k.wrap (a*b)))) (k=k')
 | .quo=>eu (.v (.i k (k.wrap (a.tdiv b)))) (k=k'/\b≠0)
 | .rem=>eu (.v (.i k (a.tmod b))) (k=k'/\b≠0)
 | .and=>eu (.v (.i k (nE k a b))) (k=k')
 | .or=>eu (.v (.i k (HJ k a b))) (k=k')
 | .xor=>eu (.v (.i k (FV k a b))) (k=k')
 | .andNot=>eu (.v (.i k (Jl k a b))) (k=k')
 | .eql=>eu (.v (.b (a==b))) (k=k')
 | .neq=>eu (.v (.b (a !=b))) (k=k')
 | .lss=>eu (.v (.b (decide (a<b)))) (k=k')
 | .leq=>eu (.v (.b (decide (a<=b)))) (k=k')
 | .gtr=>eu (.v (.b (decide (a>b)))) (k=k')
 | .geq=>eu (.v (.b (decide (a>=b)))) (k=k')
def T9 (op:BinOp) (a b:Bytes):Option AO:=
 match op with
 | .add=>eu (.v (.s (a++b))) (a.length+b.length<=9223372036854775807)
 | .eql=>dP (.v (.b (a==b)))
 | .neq=>dP (.v (.b (!(a==b))))
 | .lss=>dP (.v (.b (Op.bytesLess a b)))
 | .leq=>dP (.v (.b (Op.bytesLess a b||a==b)))
 | .gtr=>dP (.v (.b (!(Op.bytesLess a b||a==b))))
 | .geq=>dP (.v (.b (!(Op.bytesLess a b))))
 | _=>none
def PV.byte:PV->UInt8
 | .i _ n=>UInt8.ofNat n.toNat
 | _=>0
def PV.isByte:PV->Prop
 | .i .u8 _=>True
 | _=>False
def AV.byte:AV->UInt8
 | .v x=>x.byte
 | _=>0
def AV.isByte:AV->Prop
 | .v x=>x.isByte
 | _=>False
def u8 (c:UInt8):PV:= .i .u8 c.toNat
def lenOf:AV->Option Nat
 | .v (.sl l)=>some l.length
 | .fs l=>some l.length
 | .sn=>some 0
 | .rs _ _ _ len _=>some len
 | _=>none
def bounds (len:Nat) (lo hi:Option AV):Option (Nat×Nat×Prop):=
 match lo,hi with
 |none,none=>some (0,len,True)
 |some (.v (.i _ l)),none=>some (l.toNat,len,0<=l/\l<=len)
 |none,some (.v (.i _ h))=>some (0,h.toNat,0<=h/\h<=len)
 |some (.v (.i _ l)),some (.v (.i _ h))=>some (l.toNat,h.toNat,0<=l/\l<=h/\h<=len)
 | _,_=>none
def rp (hf:Nat->Option aI) (z:Nat):AV->Option (List AV×Nat×Prop×List Nat)
 | .v (.s x)=>some (x.map fun c=> .v (u8 c),x.length,z=1,[])
 | .v (.sl l)=>some ((l.flatMap PV.cells).map .v,l.length,(∀x∈l,x.cells.length=z),[])
 | .fs l=>some ((l.flatMap PV.cells).map .v,l.length,(∀x∈l,x.cells.length=z),[])
 | .sn=>some ([],0,True,[])
 | .rs n ver o len z'=>match hf n with
  |some ob=>some ((ob.cells.drop o).take (len*z),len,ob.ver=ver/\z'=z/\o+len*z<=ob.cells.length,[n])
  |none=>none
 | _=>none
def uz (cells:List AV):List (Nat×Nat×AV)->Option (List AV×Prop)
 |[]=>some (cells,True)
 |(o,z,v)::r=>
  match uz (cells.take o++v.cells++cells.drop (o+z)) r with
  |some (cs,p)=>some (cs,(v.ph=true/\v.cells.length=z/\o+z<=cells.length)/\p)
  |none=>none
def AV.pvL (l:List AV):Option (List PV):=
 bA (fun x=>match x with
  | .agg l=>if l.all AV.one then(bA AV.AZ l).map .agg else none
  |x=>if x.ph then x.AZ else none) l
def Zk (hf:Nat->Option aI) (ag:Bool) (z:Nat) (x:AV):Option AO:=
 match x.nz with
 | .p n ver o=>match hf n with
  |some ob=>some ⟨if ag then kp ((ob.cells.drop o).take z)else ob.cells.getD o .u,ob.ver=ver/\o+z<=ob.cells.length,[n],[]⟩
  |none=>none
 | .pp y o=>some ⟨if ag then .v (.agg ((y.cells.drop o).take z))else .v (y.cells.getD o .fn0),o+z<=y.cells.length,[],[]⟩
 | _=>none
def Ry (op:BinOp) (x y:AV):Option AO:=
 match x,y with
 | .v (.i k a), .v (.i k' b)=>SN op k a k' b
 | .v (.s a), .v (.s b)=>T9 op a b
 | _,_=>none
def aUn (op:UnOp) (x:AV):Option AO:=
 match op,x with
 | .not, .v (.b a)=>dP (.v (.b (!a)))
 | .neg, .v (.i k a)=>dP (.v (.i k (k.wrap (0-a))))
 | .xor, .v (.i k a)=>dP (.v (.i k (k.wrap (BitVec.ofInt k.bits (if k.signed then-1 else k.max)^^^BitVec.ofInt k.bits a).toNat)))
 | _,_=>none
def RA (o:Nat) (x:AV):Option AO:=
 match x.nz with
 | .p n ver q=>dP (.p n ver (q+o))
 | .pp y q=>dP (.pp y (q+o))
 | _=>none
def RD (z:Nat) (x i:AV):Option AO:=
 match x,i with
 | .v (.sl l), .v (.i _ a)=>eu (.pp (l.getD a.toNat .fn0) 0) (0<=a/\a<l.length/\(l.getD a.toNat .fn0).cells.length=z)
 | .fs l, .v (.i _ a)=>eu (.pp (l.getD a.toNat .fn0) 0) (0<=a/\a<l.length/\(l.getD a.toNat .fn0).cells.length=z)
 | .rs n ver o len z', .v (.i _ a)=>eu (.p n ver (o+a.toNat*z)) (0<=a/\a<len/\z'=z)
 | _,_=>none
def RC (n z:Nat) (x i:AV):Option AO:=
 match x.nz,i with
 | .p m ver o, .v (.i _ a)=>eu (.p m ver (o+a.toNat*z)) (0<=a/\a<n)
 | .pp y o, .v (.i _ a)=>eu (.pp y (o+a.toNat*z)) (0<=a/\a<n)
 | _,_=>none
def Rz (k:Nat) (x:AV):Option AO:=
 match x with
 | .tup l=>eu (l.getD k .u) (k<l.length)
 | .v (.tup l)=>eu (.v (l.getD k .fn0)) (k<l.length)
 | _=>none
def RE (x:AV):Option AO:=
 match x.nz with
 | .p n ver o=>dP (.p n ver o)
 | .pp y o=>dP (.pp y o)
 | .v (.fn (.func f))=>dP (.v (.fn (.func f)))
 | .fn (.func f) a c=>dP (.fn (.func f) a c)
 | _=>none
def Mo (hf:Nat->Option aI) (ng:Bool) (x y:AV):Option AO:=
 match x.nz,y with
 | .v .p0, .v .p0=>dP (.v (.b (!ng)))
 | .p _ _ _, .v .p0=>dP (.v (.b ng))
 | .v .p0, .p _ _ _=>dP (.v (.b ng))
 | .pp _ _, .v .p0=>dP (.v (.b ng))
 | .p n ver o, .p n' ver' o'=>if n=n'/\ver=ver'/\o=o' then(match hf n with
  |some ob=>some ⟨.v (.b (!ng)),ob.ver=ver,[n],[]⟩
  |none=>none)else none
 | _,_=>none
def Mn (hf:Nat->Option aI) (ok:TypeId->Nat->Nat->Bool) (x:AV):Option AO:=
 match x with
 | .p n ver o=>match hf n with
  |some ob=>match ob.el with
   |some T=>some ⟨.p n ver o,ob.ver=ver/\o<ob.cells.length/\ob.gr=false/\ok T ob.cells.length o=true,[n],[]⟩
   |none=>none
  |none=>none
 | _=>none
def RF (x:AV):Option AO:=
 match x with
 | .sn=>dP (.v .p0)
 | .rs n ver o len _=>eu (.p n ver o) (0<len)
 | _=>none
def Mp (hf:Nat->Option aI) (e:TypeId) (x y:AV):Option AO:=
 match x,y with
 | .v .p0, .v (.i .i64 0)=>dP (.v (.s []))
 | .p n ver o, .v (.i .i64 len)=>match hf n with
  |some ob=>some ⟨.v (.s ((ob.cells.take len.toNat).map AV.byte)),ob.ver=ver/\o=0/\ob.el=some e/\0<len/\len.toNat<=ob.cells.length/\len<=9223372036854775807/\ ∀y∈ob.cells.take len.toNat,y= .v (u8 y.byte),[n],[(n,none)]⟩
  |none=>none
 | _,_=>none
def AV.isAgg:AV->Prop
 | .agg _=>True
 | .v (.agg _)=>True
 | _=>False
def vW:List Nat->List PV->List PV->Option Bool
 |[],[],[]=>some true
 |0::ks, .b a::l, .b b::m=>(vW ks l m).map (a==b&& ·)
 |1::ks, .s a::l, .s b::m=>(vW ks l m).map (a==b&& ·)
 | _,_,_=>none
def mz:Bool->PV->PV->Option Bool
 |true, .s a, .s b=>some (a==b)
 |false, .i k a, .i k' b=>if k=k' then some (a==b)else none
 | _,_,_=>none
def QZ (st:Bool) (key:PV):List AV->Prop
 | .v a:: .v _::r=>(mz st key a).isSome=true/\QZ st key r
 |[]=>(mz st key key).isSome=true
 | _=>False
def sI (st:Bool) (z key:PV):List AV->PV
 | .v a:: .v b::r=>if mz st key a=some true then b else sI st z key r
 | _=>z
def Ax (st:Bool) (key:PV):List AV->Bool
 | .v a:: .v _::r=>if mz st key a=some true then true else Ax st key r
 | _=>false
def xU (st:Bool) (key val:PV):List AV->List AV
 | .v a:: .v b::r=>if mz st key a=some true then .v key:: .v val::r else .v a:: .v b::xU st key val r
 | _=>[.v key, .v val]
def fE (nm:Nat) (o:SO) (tf:Nat->AV) (hf:Nat->Option aI):Option AO:=
 match o with
 | .mov x=>dP (x.ev tf)
 | .pick c a b=>match c.ev tf with
  | .v (.b true)=>dP (a.ev tf)
  | .v (.b false)=>dP (b.ev tf)
  | _=>none
 | .alloc t z=>some ⟨.p nm 0 0,True,[],[(nm,some ⟨0,z,false,some t⟩)]⟩
 | .box x=>some ⟨.p nm 0 0,(x.ev tf).ph=true,[],[(nm,some ⟨0,(x.ev tf).cells,false,none⟩)]⟩
 | .build z ps=>match uz z (ps.map fun(a,b,x)=>(a,b,x.ev tf))with
  |some (cs,p)=>some ⟨kp cs,p,[],[]⟩
  |none=>none
 | .bsl w z ps=>match w,AV.pvL (ps.map (SX.ev tf))with
  |false,some xs=>some ⟨.fs xs,∀x∈xs,x.cells.length=z,[],[]⟩
  | _,_=>some ⟨.rs nm 0 0 ps.length z,(∀x∈ps.map (SX.ev tf),x.ph=true/\x.cells.length=z),[],[(nm,some ⟨0,(ps.map (SX.ev tf)).flatMap AV.cells,false,none⟩)]⟩
 | .ld ag z x=>Zk hf ag z (x.ev tf)
 | .st z a x=>match a.ev tf with
  | .p n ver o=>match hf n with
   |some ob=>some ⟨.v (.tup []),ob.ver=ver/\o+z<=ob.cells.length/\(x.ev tf).ph=true/\(x.ev tf).cells.length=z,[n],
     [(n,some ⟨ob.ver,ob.cells.take o++(x.ev tf).cells++ob.cells.drop (o+z),ob.gr,ob.el⟩)]⟩
   |none=>none
  | _=>none
 | .bin op x y=>Ry op (x.ev tf) (y.ev tf)
 | .beq ng x y=>match x.ev tf,y.ev tf with
  | .v (.b a), .v (.b b)=>dP (.v (.b (if ng then !(a==b)else a==b)))
  | _,_=>none
 | .ceq ng ks x y=>match x.ev tf,y.ev tf with
  | .v (.agg l), .v (.agg m)=>match vW ks l m with
   |some r=>dP (.v (.b (if ng then !r else r)))
   |none=>none
  | _,_=>none
 | .un op x=>aUn op (x.ev tf)
 | .cvi k x=>match x.ev tf with
  | .v (.i _ a)=>dP (.v (.i k (k.wrap a)))
  | _=>none
 | .cvs x=>match x.ev tf with
  | .v (.s l)=>dP (.v (.s l))
  | _=>none
 | .b2s x=>match x.ev tf with
  | .v (.sl l)=>eu (.v (.s (l.map PV.byte))) (∀y∈l,y.isByte)
  | .fs l=>eu (.v (.s (l.map PV.byte))) (∀y∈l,y.isByte)
  | .sn=>dP (.v (.s []))
  | .rs n ver o len z=>match hf n with
   |some ob=>some ⟨.v (.s (((ob.cells.drop o).take len).map AV.byte)),ob.ver=ver/\z=1/\o+len<=ob.cells.length/\ ∀y∈(ob.cells.drop o).take len,y.isByte,[n],[]⟩
   |none=>none
  | _=>none
 | .s2b x=>match x.ev tf with
  | .v (.s l)=>dP (.v (.sl (l.map u8)))
  | _=>none
 | .mks z by_ l c=>match l.ev tf,c.ev tf with
  | .v (.i _ l), .v (.i _ c)=>some ⟨.rs nm 0 0 l.toNat z.length,0<=l/\l<=c/\by_*c<=140737488355328/\c<=140737488355328,[],[(nm,some ⟨0,(List.replicate c.toNat z).flatten,false,none⟩)]⟩
  | _,_=>none
 | .slS x lo hi=>match x.ev tf with
  | .v (.s a)=>match bounds a.length (lo.map (SX.ev tf)) (hi.map (SX.ev tf))with
   |some (l,h,p)=>eu (.v (.s ((a.take h).drop l))) p
   |none=>none
  | _=>none
 | .slL z x lo hi mx=>match x.ev tf,mx with
  | .v (.sl a),none=>match bounds a.length (lo.map (SX.ev tf)) (hi.map (SX.ev tf))with
   |some (l,h,p)=>eu (.v (.sl ((a.take h).drop l))) (p/\ ∀x∈a,x.cells.length=z)
   |none=>none
  | .fs a,none=>match bounds a.length (lo.map (SX.ev tf)) (hi.map (SX.ev tf))with
   |some (l,h,p)=>eu (.v (.sl ((a.take h).drop l))) (p/\ ∀x∈a,x.cells.length=z)
   |none=>none
  | .rs n ver o len z',none=>match bounds len (lo.map (SX.ev tf)) (hi.map (SX.ev tf))with
   |some (l,h,p)=>eu (.rs n ver (o+l*z) (h-l) z) (p/\z'=z)
   |none=>none
  | .v (.sl a),some mx=>match bounds a.length (lo.map (SX.ev tf)) (hi.map (SX.ev tf)),hi.map (SX.ev tf),mx.ev tf with
   |some (l,h,p),some (.v (.i _ hh)), .v (.i _ m)=>eu (.fs ((a.take h).drop l)) (p/\m=hh/\ ∀x∈a,x.cells.length=z)
   | _,_,_=>none
  | .fs a,some mx=>match bounds a.length (lo.map (SX.ev tf)) (hi.map (SX.ev tf)),hi.map (SX.ev tf),mx.ev tf with
   |some (l,h,p),some (.v (.i _ hh)), .v (.i _ m)=>eu (.fs ((a.take h).drop l)) (p/\m=hh/\ ∀x∈a,x.cells.length=z)
   | _,_,_=>none
  | .sn,some mx=>match bounds 0 (lo.map (SX.ev tf)) (hi.map (SX.ev tf)),hi.map (SX.ev tf),mx.ev tf with
   |some (_,_,p),some (.v (.i _ hh)), .v (.i _ m)=>eu (.fs []) (p/\m=hh)
   | _,_,_=>none
  | .rs n ver o len z',some mx=>match bounds len (lo.map (SX.ev tf)) (hi.map (SX.ev tf)),hi.map (SX.ev tf),mx.ev tf with
   |some (l,h,p),some (.v (.i _ hh)), .v (.i _ m)=>eu (.rs n ver (o+l*z) (h-l) z) (p/\m=hh/\z'=z)
   | _,_,_=>none
  | _,_=>none
 | .slA n z x lo hi mx=>match x.ev tf,mx with
  | .p m ver o,none=>match hf m,bounds n (lo.map (SX.ev tf)) (hi.map (SX.ev tf))with
   |some ob,some (l,h,p)=>some ⟨.rs m ver (o+l*z) (h-l) z,p/\ob.ver=ver/\o+n*z<=ob.cells.length,[m],[]⟩
   | _,_=>none
  | _,_=>none
 | .fad o x=>RA o (x.ev tf)
 | .fld ag o z x=>eu (if ag then kp (((x.ev tf).cells.drop o).take z)else(x.ev tf).cells.getD o .u) ((x.ev tf).isAgg/\o+z<=(x.ev tf).cells.length)
 | .ixs z x i=>RD z (x.ev tf) (i.ev tf)
 | .ixa n z x i=>RC n z (x.ev tf) (i.ev tf)
 | .ixS x i=>match x.ev tf,i.ev tf with
  | .v (.s l), .v (.i _ a)=>eu (.v (u8 (l.getD a.toNat 0))) (0<=a/\a<l.length)
  | _,_=>none
 | .ixV ag n z x i=>match i.ev tf with
  | .v (.i _ a)=>eu (if ag then kp (((x.ev tf).cells.drop (a.toNat*z)).take z)else(x.ev tf).cells.getD (a.toNat*z) .u) ((x.ev tf).isAgg/\0<=a/\a<n/\a.toNat*z+z<=(x.ev tf).cells.length)
  | _=>none
 | .ext x k=>Rz k (x.ev tf)
 | .len x=>match lenOf (x.ev tf)with
  |some n=>dP (.v (.i .i64 n))
  |none=>none
 | .lenS x=>match x.ev tf with
  | .v (.s l)=>dP (.v (.i .i64 l.length))
  | _=>none
 | .lenA n=>dP (.v (.i .i64 n))
 | .mm mx x y=>match x.ev tf,y.ev tf with
  | .v (.i k a), .v (.i k' b)=>eu (.v (.i k (if mx then(if b>a then b else a)else(if b<a then b else a)))) (k=k')
  | _,_=>none
 | .app e z by_ x y=>match rp hf z (y.ev tf)with
  |some (ys,k,p,r)=>
   match x.ev tf with
   | .sn=>if k=0 then some ⟨.sn,p,r,[]⟩else some ⟨.rs nm 0 0 k z,p/\(∀y∈ys,y.one=true)/\k*by_<=140737488355328/\k<=140737488355328,r,[(nm,some ⟨0,ys,true,some e⟩)]⟩
   | .fs l=>if k=0 then some ⟨.fs l,p,r,[]⟩else some ⟨.rs nm 0 0 (l.length+k) z,p/\(∀y∈ys,y.one=true)/\(∀x∈l,x.cells.length=z)/\(l.length+k)*by_<=140737488355328/\l.length+k<=140737488355328,r,[(nm,some ⟨0,(l.flatMap PV.cells).map .v++ys,true,some e⟩)]⟩
   | .rs n ver o len z'=>match hf n with
    |some ob=>some ⟨.rs n (ver+1) 0 (len+k) z,p/\(∀y∈ys,y.one=true)/\ob.ver=ver/\o=0/\z'=z/\len*z<=ob.cells.length/\(len+k)*by_<=140737488355328/\len+k<=140737488355328,
      n::r,[(n,some ⟨ver+1,ob.cells.take (len*z)++ys,true,if ob.el=some e then some e else none⟩)]⟩
    |none=>none
   | .v (.sl l)=>if k=0 then some ⟨.v (.sl l),p,r,[]⟩else none
   | _=>none
  |none=>none
 | .cpy z x y=>match rp hf z (y.ev tf),x.ev tf with
  |some (ys,k,p,r), .rs n ver o len z'=>match hf n with
   |some ob=>some ⟨.v (.i .i64 (min k len:Nat)),p/\(∀y∈ys,y.one=true)/\ob.ver=ver/\z'=z/\o+len*z<=ob.cells.length,n::r,
     [(n,some ⟨ob.ver,ob.cells.take o++ys.take (min k len*z)++ob.cells.drop (o+min k len*z),ob.gr,ob.el⟩)]⟩
   |none=>none
  | _,_=>none
 | .mkf f a c=>dP (match a,c with
  |[],[]=> .v (.fn f)
  | _,_=> .fn f (a.map (SX.ev tf)) (c.map (SX.ev tf)))
 | .nck x=>RE (x.ev tf)
 | .mki t x=>match x.ev tf with
  | .v y=>dP (.v (.ifc t y))
  | _=>none
 | .peq ng x y=>Mo hf ng (x.ev tf) (y.ev tf)
 | .cvp ok x=>Mn hf ok (x.ev tf)
 | .sld x=>RF (x.ev tf)
 | .ust e x y=>Mp hf e (x.ev tf) (y.ev tf)
 | .clr z x=>match x.ev tf with
  | .rs n ver o len z'=>match hf n with
   |some ob=>some ⟨.v (.tup []),ob.ver=ver/\z'=z.length/\o+len*z'<=ob.cells.length,[n],
     [(n,some ⟨ob.ver,ob.cells.take o++(List.replicate len z).flatten++ob.cells.drop (o+len*z'),ob.gr,ob.el⟩)]⟩
   |none=>none
  | _=>none
 | .snl ng x=>match x.ev tf with
  | .v (.sl [])=>dP .ub
  | .v (.sl (_:: _))=>dP (.v (.b ng))
  | .sn=>dP (.v (.b (!ng)))
  | .fs []=>dP .ub
  | .fs (_:: _)=>dP (.v (.b ng))
  | .rs _ _ _ _ _=>dP (.v (.b ng))
  | _=>none
 | .mkm=>some ⟨.mp nm,True,[],[(nm,some ⟨0,[],false,none⟩)]⟩
 | .mget c st z x k=>match x.ev tf,k.ev tf with
  | .mp n, .v key=>match hf n with
   |some ob=>some ⟨if c then .tup [.v (sI st z key ob.cells), .v (.b (Ax st key ob.cells))]else .v (sI st z key ob.cells),QZ st key ob.cells,[n],[]⟩
   |none=>none
  | _,_=>none
 | .mset st x k v=>match x.ev tf,k.ev tf,v.ev tf with
  | .mp n, .v key, .v val=>match hf n with
   |some ob=>some ⟨.v (.tup []),QZ st key ob.cells,[n],[(n,some ⟨ob.ver,xU st key val ob.cells,ob.gr,ob.el⟩)]⟩
   |none=>none
  | _,_,_=>none
 | .stop=>none
 | .call _ _=>none
end Go.Dom
namespace Go.Dom
variable {v:Int->Nat->Nat->Bool×Nat×Nat}
structure Gt where
 need:Int
 kids:List Int
 leaf:Int
def eC:Gt:=⟨0,[],0⟩
def ix (v:Int->Nat->Nat->Bool×Nat×Nat):List Int->Nat->Nat->Bool×Nat×Nat
 |[],n,c=>(true,n,c)
 |k::r,n,c=>if(v k n c).1 then ix v r (v k n c).2.1 (v k n c).2.2 else(false,(v k n c).2.1,(v k n c).2.2)
def eN (G:List Gt):Nat->Int->Nat->Nat->Bool×Nat×Nat
 |0,_,n,c=>(false,n,c)
 |f+1,at',n,c=>
  if at'≠n\/G.length<=n then(false,n,c)
  else if(G.getD n eC).kids=[]then(decide ((G.getD n eC).need=0)&&decide ((G.getD n eC).leaf=c),n+1,c+1)
  else if(G.getD n eC).need<1\/(G.getD n eC).need>(G.getD n eC).kids.length\/(G.getD n eC).leaf≠0 then(false,n+1,c)
  else ix (eN G f) (G.getD n eC).kids (n+1) c
theorem Jq (hv: ∀k n c,n<=(v k n c).2.1): ∀(l:List Int) (n c:Nat),n<=(ix v l n c).2.1
 |[],n,c=>aA _
 |k::r,n,c=>by
  rw[ix];split
  ·exact fw (hv k n c) (Jq hv r _ _)
  ·exact hv k n c
theorem Eo (G:List Gt): ∀(f:Nat) (k:Int) (n c:Nat),n<=(eN G f k n c).2.1
 |0,_,n,c=>aA _
 |f+1,k,n,c=>by
  rw[eN];split
  ·exact aA _
  ·split
   ·exact qp _
   ·split
    ·exact qp _
    ·exact fw (qp _) (Jq (Eo G f) _ _ _)
theorem Jr {N:Nat} (hv: ∀k n c,n<=N->(v k n c).2.1<=N): ∀(l:List Int) (n c:Nat),n<=N->(ix v l n c).2.1<=N
 |[],n,c,h=>h
 |k::r,n,c,h=>by
  rw[ix];split
  ·exact Jr hv r _ _ (hv k n c h)
  ·exact hv k n c h
theorem qj (G:List Gt): ∀(f:Nat) (k:Int) (n c:Nat),n<=G.length->(eN G f k n c).2.1<=G.length
 |0,_,n,c,h=>h
 |f+1,k,n,c,h=>by
  rw[eN];split
  ·exact h
  ·rename_i g;have:n+1<=G.length:=by omega
   split
   ·exact this
   ·split
    ·exact this
    ·exact Jr (qj G f) _ _ _ this
theorem Jp (hv: ∀k n c,(v k n c).2.2+n<=c+(v k n c).2.1): ∀(l:List Int) (n c:Nat),(ix v l n c).2.2+n<=c+(ix v l n c).2.1
 |[],n,c=>aA _
 |k::r,n,c=>by
  have h1:=hv k n c;rw[ix];split
  ·have h2:=Jp hv r (v k n c).2.1 (v k n c).2.2;omega
  ·exact h1
theorem yG (G:List Gt): ∀(f:Nat) (k:Int) (n c:Nat),(eN G f k n c).2.2+n<=c+(eN G f k n c).2.1
 |0,_,n,c=>aA _
 |f+1,k,n,c=>by
  rw[eN];split
  ·exact aA _
  ·split
   ·show c+1+n<=c+(n+1);omega
   ·split
    ·show c+n<=c+(n+1);omega
    ·have:=Jp (yG G f) (G.getD n eC).kids (n+1) c;omega
def KS (v:Nat->Nat->Option (Nat×Nat)):List Int->Nat->Nat->Option (Nat×Nat)
 |[],n,c=>some (n,c)
 |k::r,n,c=>if k≠n then none else match v n c with
  |some (n',c')=>KS v r n' c'
  |none=>none
def YS (G:List Gt):Nat->Nat->Nat->Option (Nat×Nat)
 |0,_,_=>none
 |f+1,n,c=>
  if G.length<=n then none
  else if(G.getD n eC).kids=[]then(if(G.getD n eC).need=0/\(G.getD n eC).leaf=c then some (n+1,c+1)else none)
  else if(G.getD n eC).need<1\/(G.getD n eC).need>(G.getD n eC).kids.length\/(G.getD n eC).leaf≠0 then none
  else KS (YS G f) (G.getD n eC).kids (n+1) c
def Q3 (x:Bool×Nat×Nat):Option (Nat×Nat):=if x.1 then some x.2 else none
theorem OC {w:Nat->Nat->Option (Nat×Nat)} (h: ∀n c:Nat,Q3 (v (n:Int) n c)=w n c) (h2: ∀(k:Int) (n c:Nat),k≠n->(v k n c).1=false): ∀(l:List Int) (n c:Nat),Q3 (ix v l n c)=KS w l n c
 |[],n,c=>rfl
 |k::r,n,c=>by
  rw[ix,KS]
  by_cases hk:k=n
  ·subst hk;simp only[ne_eq,qw,aB];rw[<-h n c];unfold Q3
   cases hb:(v n n c).1 with
   |true=>
    simp only[aC];exact OC h h2 r _ _
   |false=>simp
  ·rw[af hk,h2 k n c hk];simp[Q3]
theorem Bt (G:List Gt): ∀(f n c:Nat),Q3 (eN G f (n:Int) n c)=YS G f n c
 |0,n,c=>rfl
 |f+1,n,c=>by
  rw[eN,YS]
  by_cases h1:G.length<=n
  ·rw[af (.inr h1),af h1];rfl
  ·rw[aa (by simp;omega),aa h1]
   by_cases h2:(G.getD n eC).kids=[]
   ·rw[af h2,af h2];unfold Q3
    by_cases h3:(G.getD n eC).need=0/\(G.getD n eC).leaf=c
    ·rw[af h3];have:(decide ((G.getD n eC).need=0)&&decide ((G.getD n eC).leaf=c))=true:=by rw[aQ h3.1,aQ h3.2];rfl
     rw[this];rfl
    ·rw[aa h3];have:(decide ((G.getD n eC).need=0)&&decide ((G.getD n eC).leaf=c))=false:=by
      rw[dR];intro g;simp only[bc,a8]at g;exact h3 g
     rw[this];rfl
   ·rw[aa h2,aa h2];split
    ·rfl
    ·refine OC (Bt G f) (fun k n c hk=> ?_) _ _ _
     cases f with
     |zero=>rfl
     |succ f=>rw[eN,af (.inl hk)]
def DI (G:List Gt):Option Nat:=if G=[]then some 0 else match YS G (G.length+1) 0 0 with
 |some (n,c)=>if n=G.length/\c<=256 then some c else none
 |none=>none
def xT (G:List Gt) (n:Int):Int:=if(512:Int)<G.length\/n<0\/256<n then 6 else match DI G with
 |none=>3
 |some c=>if(c:Int)=n then 0 else 6
