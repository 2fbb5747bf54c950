/-
  Part of the proof, part FA1. Own work.
-/
import Derived.Below
import Derived.Calls
set_option linter.all false
namespace Go
abbrev ae:=@Option.some.injEq
abbrev an:=@Nat.le_refl
abbrev aD:=@Nat.mod_lt
abbrev aE:=@List.length_map
abbrev aH:=@Nat.zero_le
abbrev aR:=@List.getD_eq_getElem?_getD
abbrev aW:=@Option.bind_eq_some_iff
abbrev aY:=@Bool.and_eq_true
abbrev bG:=@Go.Sem.run_bind
abbrev bJ:=@List.getElem?_eq_getElem
abbrev aS:=@List.map_cons
abbrev aV:=@Nat.mod_eq_of_lt
abbrev aX:=@Bool.false_eq_true
abbrev bc:=@Nat.mul_comm
abbrev bj:=@Nat.lt_of_lt_of_le
abbrev bm:=@List.length_append
abbrev bw:=@List.mem_map
abbrev bz:=@List.all_eq_true
abbrev bH:=@List.map_nil
abbrev bL:=@List.mem_cons
abbrev bM:=@Nat.mul_mod
abbrev bQ:=@Nat.mul_assoc
abbrev bR:=@Bool.not_true
abbrev bU:=@List.length_take
abbrev bV:=@List.getElem?_eq_some_iff
abbrev bZ:=@Bool.not_false
abbrev cd:=@List.take_of_length_le
abbrev cf:=@Bool.true_and
abbrev ct:=@Nat.pow_add
abbrev cu:=@Nat.add_mul
abbrev cA:=@List.getD_cons_succ
abbrev cC:=@Nat.le_of_ble_eq_true
abbrev cF:=@Nat.mul_le_mul_right
abbrev cI:=@Nat.pow_le_pow_right
abbrev cK:=@List.take_length
abbrev cM:=@List.mem_range
abbrev cO:=@Prod.mk.injEq
abbrev cX:=@List.drop_length
abbrev db:=@Bool.and_self
abbrev dq:=@Nat.mod_mod
abbrev dr:=@List.mem_singleton
abbrev dt:=@List.getElem?_map
abbrev dD:=@List.map_append
abbrev dE:=@Bool.eq_iff_iff
abbrev dF:=@Option.map_eq_some_iff
abbrev dG:=@Nat.mul_one
abbrev dH:=@Bool.false_and
abbrev dI:=@Nat.zero_add
abbrev dQ:=@List.flatMap_cons
abbrev dZ:=@Nat.div_le_self
abbrev ec:=@Nat.lt_of_le_of_lt
abbrev eg:=@Nat.div_div_eq_div_mul
abbrev eA:=@List.getElem?_take
abbrev eB:=@Array.ext'
abbrev eE:=@Nat.sub_self
abbrev eU:=@List.append_assoc
abbrev eZ:=@Bool.eq_false_iff
abbrev ft:=@Nat.le_trans
abbrev fw:=@List.getD_cons_zero
abbrev fE:=@Bool.not_eq_true'
abbrev fI:=@Nat.pow_pos
abbrev fJ:=@List.mem_append
abbrev fR:=@Nat.mul_lt_mul''
abbrev fS:=@Int.emod_nonneg
abbrev fT:=@Nat.add_comm
abbrev fU:=@List.length_set
abbrev gG:=@UInt8.toNat_ofNat'
abbrev gH:=@Iff.rfl
abbrev gI:=@Nat.div_eq_of_lt
abbrev gJ:=@List.length_eq_zero_iff
abbrev gK:=@Nat.div_lt_iff_lt_mul
abbrev gL:=@Nat.mod_mul_mod
abbrev gM:=@Nat.div_add_mod
abbrev gN:=@List.getElem_of_mem
abbrev gZ:=@Int.emod_lt_of_pos
abbrev hG:=@List.mem_of_getElem?
abbrev hO:=@Array.getD_eq_getD_getElem?
abbrev ia:=@Nat.one_mul
abbrev iM:=@Nat.pow_mod
abbrev iN:=@List.length_range
abbrev iO:=@List.drop_of_length_le
abbrev iP:=@UInt8.toNat_inj
abbrev iQ:=@List.map_map
abbrev iR:=@List.getElem_mem
abbrev iS:=@Nat.div_one
abbrev jm:=@List.mem_cons_of_mem
abbrev jn:=@Nat.mul_add
abbrev jo:=@Nat.pow_mul
abbrev jq:=@List.mem_flatMap
abbrev jK:=@Nat.mul_mod_mod
abbrev jL:=@BitVec.toNat_ofNat
abbrev jM:=@Go.World.cell?_of_block
abbrev jN:=@Nat.add_mod
abbrev jO:=@List.eq_nil_of_length_eq_zero
abbrev jP:=@Nat.mul_le_mul
abbrev jQ:=@List.append_nil
abbrev jR:=@Nat.le_of_lt
abbrev jS:=@List.getElem?_range
abbrev jT:=@Nat.gcd_comm
abbrev jU:=@Nat.succ_mul
abbrev gV:=@Int.toNat_of_nonneg
abbrev iq:=@List.drop_eq_getElem_cons
abbrev ir:=@List.map_congr_left
abbrev iu:=@Bool.true_or
abbrev iw:=@Nat.mul_le_mul_left
abbrev ix:=@Nat.lt_trans
abbrev iy:=@List.not_mem_nil
abbrev iA:=@Nat.add_assoc
abbrev jj:=@Array.getElem?_eq_some_iff
abbrev jl:=@List.mem_of_mem_take
abbrev j5:=@Nat.eq_zero_or_pos
abbrev j6:=@Nat.testBit_eq_decide_div_mod_eq
abbrev j7:=@List.length_drop
abbrev j8:=@Nat.add_sub_cancel
abbrev j9:=@List.getElem?_drop
abbrev ka:=@Bool.false_or
abbrev kd:=@List.getElem?_eq_none
abbrev kI:=@Int.natAbs_mul
abbrev kJ:=@List.length_pos_iff
abbrev kK:=@Int.mul_add
abbrev kL:=@Int.mul_assoc
abbrev kM:=@Nat.gcd_rec
abbrev kN:=@Nat.lt_irrefl
abbrev kO:=@List.size_toArray
abbrev kP:=@Ne.symm
abbrev kQ:=@Nat.mod_one
abbrev mz:=@Nat.add_mul_div_left
abbrev mA:=@Nat.zero_mul
abbrev mB:=@Int.emod_add_mul_ediv
abbrev mC:=@Int.le_refl
abbrev mD:=@Nat.not_lt_zero
abbrev mE:=@List.mapIdx_cons
abbrev nQ:=@Int.mul_neg
abbrev nR:=@List.range_succ
abbrev nS:=@Nat.lt_or_ge
abbrev nT:=@Nat.mul_pos
abbrev nU:=@List.mem_of_mem_drop
abbrev nV:=@List.length_eq_one_iff
abbrev nW:=@Bool.not_not
abbrev nX:=@Nat.mod_mul
abbrev nY:=@Int.mul_sub
abbrev pB:=@Nat.two_mul
abbrev pC:=@Nat.pow_lt_pow_iff_right
abbrev pD:=@Nat.div_mul_le_self
abbrev pE:=@Bool.or_true
abbrev pF:=@List.getElem?_set
abbrev pG:=@Go.RowKit.Below.refl
abbrev pH:=@Nat.mul_pow
abbrev pI:=@List.ext_getElem
abbrev pJ:=@Bool.or_eq_true
abbrev pK:=@Nat.mod_mul_right_div_self
abbrev pL:=@Int.add_mul_emod_self_left
abbrev pM:=@List.nodup_cons
abbrev pN:=@Bool.and_true
abbrev pO:=@Nat.min_eq_left
abbrev pP:=@List.map_take
abbrev sj:=@Int.neg_mul
abbrev sk:=@List.mem_cons_self
abbrev sr:=@List.map_set
abbrev ss:=@Nat.mod_mod_of_dvd
abbrev su:=@Go.IntKind.wrap_u8
abbrev sw:=@List.drop_zero
abbrev sy:=@Nat.mod_le
abbrev sA:=@Except.ok.injEq
abbrev sC:=@Int.mul_comm
abbrev sD:=@Nat.one_pow
abbrev sE:=@Nat.le_div_iff_mul_le
abbrev sF:=@List.drop_take
abbrev sG:=@Nat.lt_log2_self
abbrev sH:=@Nat.lt_succ_self
abbrev sI:=@List.flatMap_append
abbrev sJ:=@List.getElem?_append_right
abbrev sK:=@Array.getElem?_modify
abbrev sL:=@List.ext_getElem?
abbrev sM:=@Array.getElem?_append_left
abbrev sN:=@Bool.or_self
abbrev sO:=@Option.isSome_iff_exists
abbrev sP:=@Decidable.byContradiction
abbrev sQ:=@List.take_append_drop
abbrev sR:=@List.map_drop
abbrev sS:=@List.getElem?_append_left
abbrev vJ:=@Array.mapM_eq_mapM_toList
abbrev vK:=@Int.ediv_eq_zero_of_lt
abbrev vL:=@List.set_eq_take_append_cons_drop
abbrev vM:=@Nat.mul_add_div
abbrev vO:=@UInt8.lt_iff_toNat_lt
abbrev vP:=@Nat.exists_eq_add_of_le
abbrev vQ:=@Go.Sem.run_map
abbrev vR:=@Nat.add_mul_mod_self_left
abbrev vT:=@List.mapM_cons
abbrev vU:=@Go.MapKept.run_getObj_map
abbrev vV:=@Nat.pow_succ'
abbrev vW:=@Nat.mul_right_comm
abbrev vX:=@List.drop_drop
abbrev vY:=@Option.some.inj
abbrev vZ:=@Int.add_mul_ediv_left
abbrev wa:=@List.flatMap_map
abbrev wb:=@Int.one_mul
abbrev wc:=@Int.zero_add
abbrev we:=@Int.mul_zero
abbrev wj:=@Nat.log2_lt
abbrev wk:=@List.set_set
abbrev wq:=@Go.MapKept.run_findKey
abbrev wu:=@Array.getElem?_eq_getElem
abbrev wz:=@Bool.and_false
abbrev wA:=@Nat.pow_one
abbrev wB:=@Array.getElem?_setIfInBounds_ne
abbrev BY:=@Array.mem_of_getElem?
abbrev BZ:=@Nat.two_pow_pos
abbrev B1:=@List.nodup_range
abbrev B2:=@List.length_replicate
abbrev B3:=@UInt8.toNat.inj
abbrev B4:=@List.getElem_map
abbrev B5:=@Nat.gcd_le_right
abbrev B6:=@Nat.gcd_dvd_right
abbrev B7:=@List.getElem?_append
abbrev B8:=@List.set_append_right
abbrev B9:=@Nat.gcd_zero_right
abbrev Ca:=@Nat.lt_trichotomy
abbrev Cb:=@List.getElem?_zip_eq_some
abbrev Cc:=@Nat.pow_lt_pow_right
abbrev Cd:=@Nat.gcd_dvd_left
abbrev Cf:=@List.getElem_range
abbrev Ch:=@List.length_eraseIdx
abbrev Ci:=@List.range_eq_range'
abbrev Cj:=@Int.ediv_emod_unique
abbrev Ck:=@Int.mul_left_comm
abbrev Cl:=@Nat.mul_div_cancel
abbrev Cm:=@List.replicate_succ'
abbrev Cn:=@Nat.mul_mod_mul_right
abbrev Co:=@Nat.mul_lt_mul_of_pos_right
abbrev Cp:=@Int.natCast_dvd_natCast
abbrev Cq:=@List.getElem_set
abbrev Cr:=@List.eraseIdx_of_length_le
abbrev Cs:=@List.mem_filterMap
abbrev Ct:=@Nat.le_antisymm
abbrev Cu:=@Array.toList_map
abbrev Cv:=@List.take_append
abbrev Cw:=@List.getElem?_replicate
abbrev Cy:=@List.erase_cons_tail
abbrev Cz:=@Nat.pow_dvd_pow
abbrev CA:=@List.flatMap_nil
abbrev CB:=@Nat.le_mul_of_pos_left
abbrev HI:=@Int.ediv_neg_of_neg_of_pos
abbrev HJ:=@Nat.and_two_pow_sub_one_eq_mod
abbrev HK:=@Nat.mul_lt_mul_of_pos_left
abbrev HL:=@Nat.two_pow_add_eq_or_of_lt
abbrev HM:=@Int.fdiv_eq_ediv_of_nonneg
abbrev HN:=@List.take_succ_eq_append_getElem
abbrev HO:=@Int.tdiv_eq_ediv_of_nonneg
end Go
namespace Go.Dom
open Go.RowKit
abbrev Bytes:=List UInt8
inductive PV where
 |b (x:Bool)
 |i (k:IntKind) (n:Int)
 |s (x:Bytes)
 |agg (l:List PV)
 |tup (l:List PV)
 |sl (l:List PV)
 |fn (f:Fn)
 |fn0
 |p0
 |if0
 |ifc (t:TypeId) (v:PV)
 |pt (x:PV) (o:Nat)
 |fc (f:FuncId) (a c:List PV)
 deriving Inhabited
def PV.cells:PV->List PV
 | .agg l=>l
 |x=>[x]
def PV.one:PV->Bool
 | .agg _=>false
 | .tup _=>false
 | _=>true
abbrev Rd:=Nat->Nat->Option Value
inductive PR (rd:Rd):PV->Value->Prop where
 |b (x:Bool):PR rd (.b x) (.bool x)
 |i (k:IntKind) (n:Int):PR rd (.i k n) (.int k n)
 |s (x:Bytes):PR rd (.s x) (.string ⟨x.toArray⟩)
 |agg (l:List PV) (vs:List Value) (h1: ∀x∈l,x.one=true) (hl:l.length=vs.length) (h: ∀(k:Nat) (x:PV) (v:Value),l[k]?=some x->vs[k]?=some v->PR rd x v):PR rd (.agg l) (.agg vs.toArray)
 |tup (l:List PV) (vs:List Value) (hl:l.length=vs.length) (h: ∀(k:Nat) (x:PV) (v:Value),l[k]?=some x->vs[k]?=some v->PR rd x v):PR rd (.tup l) (.tuple vs.toArray)
 |sl0:PR rd (.sl []) (.slice none 0 0)
 |sle (a:Addr) (cap:Nat):PR rd (.sl []) (.slice (some a) 0 cap)
 |sl (l:List PV) (z:Nat) (vs:List Value) (bk of cap:Nat) (hc:l.length<=cap) (hz: ∀x∈l,x.cells.length=z) (h1: ∀y∈l.flatMap PV.cells,y.one=true)
   (hl:(l.flatMap PV.cells).length=vs.length)
   (hr: ∀(k:Nat) (v:Value),vs[k]?=some v->rd bk (of+k)=some v)
   (h: ∀(k:Nat) (x:PV) (v:Value),(l.flatMap PV.cells)[k]?=some x->vs[k]?=some v->PR rd x v):
   PR rd (.sl l) (.slice (some ⟨bk,of,none⟩) l.length cap)
 |fn (f:Fn):PR rd (.fn f) (.func f #[] #[])
 |fn0:PR rd .fn0 .nilFunc
 |p0:PR rd .p0 (.pointer none)
 |if0:PR rd .if0 .nilIface
 |ifc (t:TypeId) (x:PV) (v:Value) (h:PR rd x v):PR rd (.ifc t x) (.iface t v)
 |pt (x:PV) (o:Nat) (vs:List Value) (bk of:Nat) (h1: ∀y∈x.cells,y.one=true) (hl:x.cells.length=vs.length)
   (hr: ∀(k:Nat) (v:Value),vs[k]?=some v->rd bk (of+k)=some v)
   (h: ∀(k:Nat) (y:PV) (v:Value),x.cells[k]?=some y->vs[k]?=some v->PR rd y v):PR rd (.pt x o) (.pointer (some ⟨bk,of+o,none⟩))
 |fc (f:FuncId) (a c:List PV) (va vc:List Value) (hla:a.length=va.length) (hlc:c.length=vc.length)
   (ha: ∀(k:Nat) (x:PV) (v:Value),a[k]?=some x->va[k]?=some v->PR rd x v)
   (hc: ∀(k:Nat) (x:PV) (v:Value),c[k]?=some x->vc[k]?=some v->PR rd x v):PR rd (.fc f a c) (.func (.func f) va.toArray vc.toArray)
theorem PR.mono {rd rd':Rd} (hr: ∀b o v,rd b o=some v->rd' b o=some v) {x:PV} {v:Value} (h:PR rd x v):PR rd' x v:=by
 induction h with
 |b x=>exact .b x
 |i k n=>exact .i k n
 |s x=>exact .s x
 |agg l vs h1 hl _ ih=>exact .agg l vs h1 hl ih
 |tup l vs hl _ ih=>exact .tup l vs hl ih
 |sl0=>exact .sl0
 |sle a cap=>exact .sle a cap
 |sl l z vs bk of cap hc hz h1 hl hrd _ ih=>exact .sl l z vs bk of cap hc hz h1 hl (fun k v hv=>hr _ _ _ (hrd k v hv)) ih
 |fn f=>exact .fn f
 |fn0=>exact .fn0
 |p0=>exact .p0
 |if0=>exact .if0
 |ifc t x v _ ih=>exact .ifc t x v ih
 |pt x o vs bk of h1 hl hrd _ ih=>exact .pt x o vs bk of h1 hl (fun k v hv=>hr _ _ _ (hrd k v hv)) ih
 |fc f a c va vc hla hlc _ _ iha ihc=>exact .fc f a c va vc hla hlc iha ihc
inductive AV where
 |v (x:PV)
 |p (n ver o:Nat)
 |pp (x:PV) (o:Nat)
 |rs (n ver o len z:Nat)
 |fs (l:List PV)
 |sn
 |agg (l:List AV)
 |tup (l:List AV)
 |fn (f:Fn) (a c:List AV)
 |ub
 |mp (n:Nat)
 |u
 deriving Inhabited
def AV.one:AV->Bool
 | .v x=>x.one
 | .agg _=>false
 | .tup _=>false
 | .u=>false
 | _=>true
def AV.mQ:AV->Bool
 | .v (.tup _)=>false
 | .v _=>true
 | .agg l=>l.all AV.one
 | .tup _=>false
 | .u=>false
 | _=>true
def AV.cells:AV->List AV
 | .agg l=>l
 | .v (.agg l)=>l.map .v
 |x=>[x]
structure Cx where
 rd:Rd
 al:Nat->Prop
 cur:Nat->Option Nat
 mu:Nat->Nat
 sz:Nat->Nat
 mpn:Nat->Bool
inductive AR (C:Cx):AV->Value->Prop where
 |v {x:PV} {w:Value} (h:PR C.rd x w):AR C (.v x) w
 |p (n ver o b:Nat) (ha:C.al n) (hk:C.mpn n=false) (h: ∀c,C.cur n=some c->ver<=c/\(ver=c->b=C.mu n)):AR C (.p n ver o) (.pointer (some ⟨b,o,none⟩))
 |pp (x:PV) (o:Nat) (vs:List Value) (bk of:Nat) (h1: ∀y∈x.cells,y.one=true) (hl:x.cells.length=vs.length)
   (hr: ∀(k:Nat) (v:Value),vs[k]?=some v->C.rd bk (of+k)=some v)
   (h: ∀(k:Nat) (y:PV) (v:Value),x.cells[k]?=some y->vs[k]?=some v->PR C.rd y v):AR C (.pp x o) (.pointer (some ⟨bk,of+o,none⟩))
 |rs (n ver o len z b o' cap:Nat) (ha:C.al n) (hk:C.mpn n=false) (hc:len<=cap) (ho:cap=0\/o'=o)
   (h: ∀c,C.cur n=some c->ver<=c/\(ver=c->b=C.mu n/\o+cap*z<=C.sz n)):AR C (.rs n ver o len z) (.slice (some ⟨b,o',none⟩) len cap)
 |fs (l:List PV) (a:Option Addr) (h:PR C.rd (.sl l) (.slice a l.length l.length)):AR C (.fs l) (.slice a l.length l.length)
 |sn:AR C .sn (.slice none 0 0)
 |agg (l:List AV) (vs:List Value) (hl:l.length=vs.length) (h: ∀(k:Nat) (x:AV) (v:Value),l[k]?=some x->vs[k]?=some v->AR C x v):AR C (.agg l) (.agg vs.toArray)
 |tup (l:List AV) (vs:List Value) (hl:l.length=vs.length) (h: ∀(k:Nat) (x:AV) (v:Value),l[k]?=some x->vs[k]?=some v->AR C x v):AR C (.tup l) (.tuple vs.toArray)
 |fn (f:Fn) (a c:List AV) (va vc:List Value) (hla:a.length=va.length) (hlc:c.length=vc.length)
   (ha: ∀(k:Nat) (x:AV) (v:Value),a[k]?=some x->va[k]?=some v->AR C x v)
   (hc: ∀(k:Nat) (x:AV) (v:Value),c[k]?=some x->vc[k]?=some v->AR C x v):AR C (.fn f a c) (.func f va.toArray vc.toArray)
 |ub (x:Bool):AR C .ub (.bool x)
 |mp (n b:Nat) (ha:C.al n) (hk:C.mpn n=true) (h: ∀c,C.cur n=some c->b=C.mu n):AR C (.mp n) (.map (some b))
 |u (w:Value):AR C .u w
structure Cx.Le (C D:Cx):Prop where
 rd: ∀b o v,C.rd b o=some v->D.rd b o=some v
 al: ∀n,C.al n->D.al n
 cur: ∀n,C.al n-> ∀d,D.cur n=some d-> ∃c,C.cur n=some c/\c<=d/\(c=d->D.mu n=C.mu n/\D.sz n=C.sz n)
 mpn: ∀n,C.al n->D.mpn n=C.mpn n/\(C.mpn n=true->D.mu n=C.mu n)
theorem Cx.Le.refl (C:Cx):C.Le C:=⟨fun _ _ _ h=>h,fun _ h=>h,fun _ _ d h=>⟨d,h,an _,fun _=>⟨rfl,rfl⟩⟩,fun _ _=>⟨rfl,fun _=>rfl⟩⟩
theorem Cx.Le.trans {C D E:Cx} (h:C.Le D) (k:D.Le E):C.Le E:=by
 refine⟨fun b o v hv=>k.rd _ _ _ (h.rd _ _ _ hv),fun n hn=>k.al _ (h.al _ hn),fun n hn e he=> ?_,fun n hn=>⟨(k.mpn n (h.al n hn)).1.trans (h.mpn n hn).1,fun ht=>((k.mpn n (h.al n hn)).2 ((h.mpn n hn).1.trans ht)).trans ((h.mpn n hn).2 ht)⟩⟩
 obtain⟨d,hd,hde,hd'⟩:=k.cur n (h.al n hn) e he;obtain⟨c,hc,hcd,hc'⟩:=h.cur n hn d hd;refine⟨c,hc,ft hcd hde,fun heq=> ?_⟩
 have h1:c=d:=by omega
 have h2:d=e:=by omega
 obtain⟨m1,s1⟩:=hc' h1;obtain⟨m2,s2⟩:=hd' h2;exact⟨m2.trans m1,s2.trans s1⟩
theorem AR.mono {C D:Cx} (hle:C.Le D) {x:AV} {w:Value} (h:AR C x w):AR D x w:=by
 induction h with
 |v h=>exact .v (h.mono hle.rd)
 |p n ver o b ha hk h=>
  refine .p n ver o b (hle.al _ ha) ((hle.mpn n ha).1.trans hk) fun d hd=> ?_
  obtain⟨c,hc,hcd,hm⟩:=hle.cur n ha d hd;obtain⟨h1,h2⟩:=h c hc;refine⟨by omega,fun hv=> ?_⟩
  obtain⟨hmu,-⟩:=hm (by omega)
  rw[hmu];exact h2 (by omega)
 |pp x o vs bk of h1 hl hr h=>exact .pp x o vs bk of h1 hl (fun k v hv=>hle.rd _ _ _ (hr k v hv)) (fun k y v hy hv=>(h k y v hy hv).mono hle.rd)
 |rs n ver o len z b o' cap ha hk hc ho h=>
  refine .rs n ver o len z b o' cap (hle.al _ ha) ((hle.mpn n ha).1.trans hk) hc ho fun d hd=> ?_
  obtain⟨c,hc,hcd,hm⟩:=hle.cur n ha d hd;obtain⟨h1,h2⟩:=h c hc;refine⟨by omega,fun hv=> ?_⟩
  obtain⟨hmu,hsz⟩:=hm (by omega)
  rw[hmu,hsz];exact h2 (by omega)
 |fs l a h=>exact .fs l a (h.mono hle.rd)
 |sn=>exact .sn
 |agg l vs hl _ ih=>exact .agg l vs hl ih
 |tup l vs hl _ ih=>exact .tup l vs hl ih
 |fn f a c va vc hla hlc _ _ iha ihc=>exact .fn f a c va vc hla hlc iha ihc
 |ub x=>exact .ub x
 |mp n b ha hk h=>
  refine .mp n b (hle.al _ ha) ((hle.mpn n ha).1.trans hk) fun d hd=> ?_
  obtain⟨c,hc,-,-⟩:=hle.cur n ha d hd;rw[(hle.mpn n ha).2 hk];exact h c hc
 |u w=>exact .u w
def PV.nz:PV->AV
 | .b x=> .v (.b x)
 | .i k n=> .v (.i k n)
 | .s x=> .v (.s x)
 | .agg l=> .v (.agg l)
 | .tup l=> .v (.tup l)
 | .sl l=> .v (.sl l)
 | .fn f=> .v (.fn f)
 | .fn0=> .v .fn0
 | .p0=> .v .p0
 | .if0=> .v .if0
 | .ifc t v=> .v (.ifc t v)
 | .pt x o=> .pp x o
 | .fc f a c=> .fn (.func f) (a.map .v) (c.map .v)
def AV.nz:AV->AV
 | .v x=>x.nz
 | .p n ver o=> .p n ver o
 | .pp x o=> .pp x o
 | .rs n ver o len z=> .rs n ver o len z
 | .fs l=> .fs l
 | .sn=> .sn
 | .agg l=> .agg l
 | .tup l=> .tup l
 | .fn f a c=> .fn f a c
 | .ub=> .ub
 | .mp n=> .mp n
 | .u=> .u
theorem AR.nz {C:Cx} {x:AV} {v:Value} (h:AR C x v):AR C x.nz v:=by
 cases h with
 |v h=>
  cases h with
  |pt x o vs bk of h1 hl hr h=>exact .pp x o vs bk of h1 hl hr h
  |fc f a c va vc hla hlc ha hc=>
   refine .fn _ _ _ va vc (by simpa using hla) (by simpa using hlc) (fun k y w hy hw=> ?_) (fun k y w hy hw=> ?_)
   ·simp only[dt,dF]at hy;obtain⟨z,hz,rfl⟩:=hy;exact .v (ha k z w hz hw)
   ·simp only[dt,dF]at hy;obtain⟨z,hz,rfl⟩:=hy;exact .v (hc k z w hz hw)
  |b x=>exact .v (.b x)
  |i k n=>exact .v (.i k n)
  |s x=>exact .v (.s x)
  |agg l vs h1 hl h=>exact .v (.agg l vs h1 hl h)
  |tup l vs hl h=>exact .v (.tup l vs hl h)
  |sl0=>exact .v .sl0
  |sle a cap=>exact .v (.sle a cap)
  |sl l z vs bk of cap hc hz h1 hl hr h=>exact .v (.sl l z vs bk of cap hc hz h1 hl hr h)
  |fn f=>exact .v (.fn f)
  |fn0=>exact .v .fn0
  |p0=>exact .v .p0
  |if0=>exact .v .if0
  |ifc t x v h=>exact .v (.ifc t x v h)
 |p n ver o b ha hk h=>exact .p n ver o b ha hk h
 |pp x o vs bk of h1 hl hr h=>exact .pp x o vs bk of h1 hl hr h
 |rs n ver o len z b o' cap ha hk hc ho h=>exact .rs n ver o len z b o' cap ha hk hc ho h
 |fs l a h=>exact .fs l a h
 |sn=>exact .sn
 |agg l vs hl h=>exact .agg l vs hl h
 |tup l vs hl h=>exact .tup l vs hl h
 |fn f a c va vc hla hlc ha hc=>exact .fn f a c va vc hla hlc ha hc
 |ub x=>exact .ub x
 |mp n b ha hk h=>exact .mp n b ha hk h
 |u=>exact .u _
structure au where
 ver:Nat
 cells:List AV
 gr:Bool
 el:Option TypeId
inductive MR (rd:Rd):List AV->List MapEntry->Prop where
 |nil:MR rd [] []
 |cons (k v:PV) (l:List AV) (e:MapEntry) (es:List MapEntry) (h1:PR rd k e.key) (h2:PR rd v e.val) (h:MR rd l es):MR rd (.v k:: .v v::l) (e::es)
theorem MR.mono {rd rd':Rd} (hr: ∀b o v,rd b o=some v->rd' b o=some v) {l:List AV} {es:List MapEntry} (h:MR rd l es):MR rd' l es:=by
 induction h with
 |nil=>exact .nil
 |cons k v l e es h1 h2 _ ih=>exact .cons k v l e es (h1.mono hr) (h2.mono hr) ih
structure HR (C:Cx) (hf:Nat->Option au) (wr:Nat->Prop) (w:World):Prop where
 rdw: ∀b o v,C.rd b o=some v->w.cell? ⟨b,o,none⟩=some v
 live: ∀n ob,hf n=some ob->C.al n/\C.cur n=some ob.ver
 dead: ∀n,hf n=none->C.cur n=none
 sep: ∀n ob,hf n=some ob-> ∀k,C.rd (C.mu n) k=none
 inj: ∀n m ob oc,hf n=some ob->hf m=some oc->C.mu n=C.mu m->n=m
 wr: ∀n ob,hf n=some ob->wr (C.mu n)
 obj: ∀n ob,hf n=some ob->C.mpn n=false-> ∃cs el,w.heap[C.mu n]?=some (.cells cs el (0,0))/\cs.size=C.sz n/\ob.cells.length<=cs.size/\
  (ob.gr=false->ob.cells.length=cs.size)/\ ∀(k:Nat) (x:AV) (v:Value),ob.cells[k]?=some x->cs[k]?=some v->AR C x v
 typ: ∀n ob,hf n=some ob->C.mpn n=false-> ∀t,ob.el=some t-> ∃cs,w.heap[C.mu n]?=some (.cells cs t (0,0))
 mp: ∀n ob,hf n=some ob->C.mpn n=true-> ∃es clk,w.heap[C.mu n]?=some (.map es clk)/\MR C.rd ob.cells es.toList
inductive SX where
 |t (n:Nat)
 |c (v:AV)
def SX.ev (tf:Nat->AV):SX->AV
 | .t n=>tf n
 | .c v=>v
inductive SO where
 |mov (x:SX)
 |pick (c a b:SX)
 |alloc (t:TypeId) (z:List AV)
 |box (x:SX)
 |build (z:List AV) (ps:List (Nat×Nat×SX))
 |bsl (w:Bool) (z:Nat) (ps:List SX)
 |ld (ag:Bool) (z:Nat) (x:SX)
 |st (z:Nat) (a x:SX)
 |bin (op:BinOp) (x y:SX)
 |beq (ng:Bool) (x y:SX)
 |ceq (ng:Bool) (ks:List Nat) (x y:SX)
 |un (op:UnOp) (x:SX)
 |cvi (k:IntKind) (x:SX)
 |cvs (x:SX)
 |b2s (x:SX)
 |s2b (x:SX)
 |mks (z:List AV) (by_:Nat) (l c:SX)
 |slS (x:SX) (lo hi:Option SX)
 |slL (z:Nat) (x:SX) (lo hi mx:Option SX)
 |slA (n z:Nat) (x:SX) (lo hi mx:Option SX)
 |fad (o:Nat) (x:SX)
 |fld (ag:Bool) (o z:Nat) (x:SX)
 |ixs (z:Nat) (x i:SX)
 |ixa (n z:Nat) (x i:SX)
 |ixS (x i:SX)
 |ixV (ag:Bool) (n z:Nat) (x i:SX)
 |ext (x:SX) (k:Nat)
 |len (x:SX)
 |lenS (x:SX)
 |lenA (n:Nat)
 |mm (mx:Bool) (x y:SX)
 |app (e:TypeId) (z by_:Nat) (x y:SX)
 |cpy (z:Nat) (x y:SX)
 |call (f:SX) (args:List SX)
 |mkf (f:Fn) (a c:List SX)
 |nck (x:SX)
 |mki (t:TypeId) (x:SX)
 |peq (ng:Bool) (x y:SX)
 |cvp (ok:TypeId->Nat->Nat->Bool) (x:SX)
 |sld (x:SX)
 |ust (e:TypeId) (x y:SX)
 |clr (z:List AV) (x:SX)
 |snl (ng:Bool) (x:SX)
 |mkm
 |mget (c st:Bool) (z:PV) (x k:SX)
 |mset (st:Bool) (x k v:SX)
 |stop
structure jd where
 d:Option Nat
 o:SO
 g:Option (Nat×Bool)
inductive SC where
 |skip
 |reg (bf:Option (List Nat)) (ops:List jd)
 |seq (a b:SC)
 |cond (x:SX) (a b:SC)
 |blk (id:Nat) (a:SC)
 |loop (a:SC)
 |rng (x:SX) (ps:List Nat) (a b:SC)
 |exit (id:Nat)
 |ret
 |stop
def aQ {α β:Type} (g:α->Option β):List α->Option (List β)
 |[]=>some []
 |x::r=>match g x,aQ g r with
  |some y,some ys=>some (y::ys)
  | _,_=>none
def chunk (z:Nat):Nat->List PV->List PV
 |0,_=>[]
 |n+1,l=>(if z=1 then(l.headD .fn0)else .agg (l.take z))::chunk z n (l.drop z)
def AV.RA:AV->Option PV
 | .v x=>some x
 | .fs l=>some (.sl l)
 | .sn=>some (.sl [])
 | .pp x o=>some (.pt x o)
 | _=>none
def Fb:Fn->Option (List PV)->Option (List PV)->Option PV
 |f,some [],some []=>some (.fn f)
 | .func f,some a,some c=>some (.fc f a c)
 | _,_,_=>none
def AV.Ad:AV->Option PV
 | .v x=>some x
 | .fs l=>some (.sl l)
 | .sn=>some (.sl [])
 | .pp x o=>some (.pt x o)
 | .fn f a c=>Fb f (aQ AV.RA a) (aQ AV.RA c)
 | _=>none
def iY (l:List AV):AV:=
 match aQ (fun x=>match x with| .v y=>if y.one then some y else none| _=>none) l with
 |some ys=> .v (.agg ys)
 |none=> .agg l
def view (hf:Nat->Option au):Nat->AV->Option PV
 |0,_=>none
 | _+1, .v x=>some x
 | _+1, .fs l=>some (.sl l)
 | _+1, .sn=>some (.sl [])
 | _+1, .pp x o=>some (.pt x o)
 |f+1, .fn g a c=>Fb g (aQ (view hf f) a) (aQ (view hf f) c)
 |f+1, .p n ver o=>match hf n with
  |some ob=>if ob.ver=ver/\ob.cells.all AV.one then(aQ (view hf f) ob.cells).map fun cs=> .pt (.agg cs) o else none
  |none=>none
 |f+1, .agg l=>if l.all AV.one then(aQ (view hf f) l).map .agg else none
 |f+1, .tup l=>(aQ (view hf f) l).map .tup
 |f+1, .rs n ver o len z=>match hf n with
  |some ob=>if ob.ver=ver/\o+len*z<=ob.cells.length/\((ob.cells.drop o).take (len*z)).all AV.one then
    (aQ (view hf f) ((ob.cells.drop o).take (len*z))).map fun cs=> .sl (chunk z len cs)else none
  |none=>none
 | _+1,_=>none
def aL (hf:Nat->Option au):Nat->AV->List Nat
 |0,_=>[]
 |f+1, .fn _ a c=>a.flatMap (aL hf f)++c.flatMap (aL hf f)
 |f+1, .p n _ _=>n::match hf n with
  |some ob=>ob.cells.flatMap (aL hf f)
  |none=>[]
 |f+1, .agg l=>l.flatMap (aL hf f)
 |f+1, .tup l=>l.flatMap (aL hf f)
 |f+1, .rs n _ o len z=>n::match hf n with
  |some ob=>((ob.cells.drop o).take (len*z)).flatMap (aL hf f)
  |none=>[]
 | _+1,_=>[]
def PV.flat:PV->Bool
 | .agg l=>flatL l
 | .tup l=>flatL l
 | .sl _=>false
 | .ifc _ v=>v.flat
 | .pt _ _=>false
 | .fc _ _ _=>false
 | _=>true
where flatL:List PV->Bool
 |[]=>true
 |x::r=>x.flat&&flatL r
structure AO where
 v:AV
 pre:Prop
 rs:List Nat
 up:List (Nat×Option au)
def cz (v:AV):Option AO:=some ⟨v,True,[],[]⟩
def cT (v:AV) (p:Prop):Option AO:=some ⟨v,p,[],[]⟩
def lk (k:IntKind) (a b:Int):Int:=k.wrap (BitVec.ofInt k.bits a&&&BitVec.ofInt k.bits b).toNat
def EZ (k:IntKind) (a b:Int):Int:=k.wrap (BitVec.ofInt k.bits a|||BitVec.ofInt k.bits b).toNat
def Dm (k:IntKind) (a b:Int):Int:=k.wrap (BitVec.ofInt k.bits a^^^BitVec.ofInt k.bits b).toNat
def GS (k:IntKind) (a b:Int):Int:=k.wrap (BitVec.ofInt k.bits a&&& ~~~BitVec.ofInt k.bits b).toNat
def Pu (op:BinOp) (k:IntKind) (a:Int) (k':IntKind) (b:Int):Option AO:=
 match op with
 | .shl=>cT (.v (.i k (k.wrap (a*2^min b.toNat k.bits)))) (0<=b)
 | .shr=>cT (.v (.i k (a.fdiv (2^min b.toNat k.bits)))) (0<=b)
 | .add=>cT (.v (.i k (k.wrap (a+b)))) (k=k')
 | .sub=>cT (.v (.i k (k.wrap (a-b)))) (k=k')
 | .mul=>cT (.v (.i k (k.wrap (a*b)))) (k=k')
 | .quo=>cT (.v (.i k (k.wrap (a.tdiv b)))) (k=k'/\b≠0)
 | .rem=>cT (.v (.i k (a.tmod b))) (k=k'/\b≠0)
 | .and=>cT (.v (.i k (lk k a b))) (k=k')
 | .or=>cT (.v (.i k (EZ k a b))) (k=k')
 | .xor=>cT (.v (.i k (Dm k a b))) (k=k')
 | .andNot=>cT (.v (.i k (GS k a b))) (k=k')
 | .eql=>cT (.v (.b (a==b))) (k=k')
 | .neq=>cT (.v (.b (a !=b))) (k=k')
 | .lss=>cT (.v (.b (decide (a<b)))) (k=k')
 | .leq=>cT (.v (.b (decide (a<=b)))) (k=k')
 | .gtr=>cT (.v (.b (decide (a>b)))) (k=k')
 | .geq=>cT (.v (.b (decide (a>=b)))) (k=k')
def QD (op:BinOp) (a b:Bytes):Option AO:=
 match op with
 | .add=>cT (.v (.s (a++b))) (a.length+b.length<=9223372036854775807)
 | .eql=>cz (.v (.b (a==b)))
 | .neq=>cz (.v (.b (!(a==b))))
 | .lss=>cz (.v (.b (Op.bytesLess a b)))
 | .leq=>cz (.v (.b (Op.bytesLess a b||a==b)))
 | .gtr=>cz (.v (.b (!(Op.bytesLess a b||a==b))))
 | .geq=>cz (.v (.b (!(Op.bytesLess a b))))
 | _=>none
def PV.byte:PV->UInt8
 | .i _ n=>UInt8.ofNat n.toNat
 | _=>0
def PV.isByte:PV->Prop
 | .i .u8 _=>True
 | _=>False
def AV.byte:AV->UInt8
 | .v x=>x.byte
 | _=>0
def AV.isByte:AV->Prop
 | .v x=>x.isByte
 | _=>False
def u8 (c:UInt8):PV:= .i .u8 c.toNat
def lenOf:AV->Option Nat
 | .v (.sl l)=>some l.length
 | .fs l=>some l.length
 | .sn=>some 0
 | .rs _ _ _ len _=>some len
 | _=>none
def bounds (len:Nat) (lo hi:Option AV):Option (Nat×Nat×Prop):=
 match lo,hi with
 |none,none=>some (0,len,True)
 |some (.v (.i _ l)),none=>some (l.toNat,len,0<=l/\l<=len)
 |none,some (.v (.i _ h))=>some (0,h.toNat,0<=h/\h<=len)
 |some (.v (.i _ l)),some (.v (.i _ h))=>some (l.toNat,h.toNat,0<=l/\l<=h/\h<=len)
 | _,_=>none
def oX (hf:Nat->Option au) (z:Nat):AV->Option (List AV×Nat×Prop×List Nat)
 | .v (.s x)=>some (x.map fun c=> .v (u8 c),x.length,z=1,[])
 | .v (.sl l)=>some ((l.flatMap PV.cells).map .v,l.length,(∀x∈l,x.cells.length=z),[])
 | .fs l=>some ((l.flatMap PV.cells).map .v,l.length,(∀x∈l,x.cells.length=z),[])
 | .sn=>some ([],0,True,[])
 | .rs n ver o len z'=>match hf n with
  |some ob=>some ((ob.cells.drop o).take (len*z),len,ob.ver=ver/\z'=z/\o+len*z<=ob.cells.length,[n])
  |none=>none
 | _=>none
def rq (cells:List AV):List (Nat×Nat×AV)->Option (List AV×Prop)
 |[]=>some (cells,True)
 |(o,z,v)::r=>
  match rq (cells.take o++v.cells++cells.drop (o+z)) r with
  |some (cs,p)=>some (cs,(v.mQ=true/\v.cells.length=z/\o+z<=cells.length)/\p)
  |none=>none
def AV.Wi (l:List AV):Option (List PV):=
 aQ (fun x=>match x with
  | .agg l=>if l.all AV.one then(aQ AV.Ad l).map .agg else none
  |x=>if x.mQ then x.Ad else none) l
def VB (hf:Nat->Option au) (ag:Bool) (z:Nat) (x:AV):Option AO:=
 match x.nz with
 | .p n ver o=>match hf n with
  |some ob=>some ⟨if ag then iY ((ob.cells.drop o).take z)else ob.cells.getD o .u,ob.ver=ver/\o+z<=ob.cells.length,[n],[]⟩
  |none=>none
 | .pp y o=>some ⟨if ag then .v (.agg ((y.cells.drop o).take z))else .v (y.cells.getD o .fn0),o+z<=y.cells.length,[],[]⟩
 | _=>none
def Oh (op:BinOp) (x y:AV):Option AO:=
 match x,y with
 | .v (.i k a), .v (.i k' b)=>Pu op k a k' b
 | .v (.s a), .v (.s b)=>QD op a b
 | _,_=>none
def Xx (op:UnOp) (x:AV):Option AO:=
 match op,x with
 | .not, .v (.b a)=>cz (.v (.b (!a)))
 | .neg, .v (.i k a)=>cz (.v (.i k (k.wrap (0-a))))
 | .xor, .v (.i k a)=>cz (.v (.i k (k.wrap (BitVec.ofInt k.bits (if k.signed then-1 else k.max)^^^BitVec.ofInt k.bits a).toNat)))
 | _,_=>none
def Oj (o:Nat) (x:AV):Option AO:=
 match x.nz with
 | .p n ver q=>cz (.p n ver (q+o))
 | .pp y q=>cz (.pp y (q+o))
 | _=>none
def Ol (z:Nat) (x i:AV):Option AO:=
 match x,i with
 | .v (.sl l), .v (.i _ a)=>cT (.pp (l.getD a.toNat .fn0) 0) (0<=a/\a<l.length/\(l.getD a.toNat .fn0).cells.length=z)
 | .fs l, .v (.i _ a)=>cT (.pp (l.getD a.toNat .fn0) 0) (0<=a/\a<l.length/\(l.getD a.toNat .fn0).cells.length=z)
 | .rs n ver o len z', .v (.i _ a)=>cT (.p n ver (o+a.toNat*z)) (0<=a/\a<len/\z'=z)
 | _,_=>none
def Ok (n z:Nat) (x i:AV):Option AO:=
 match x.nz,i with
 | .p m ver o, .v (.i _ a)=>cT (.p m ver (o+a.toNat*z)) (0<=a/\a<n)
 | .pp y o, .v (.i _ a)=>cT (.pp y (o+a.toNat*z)) (0<=a/\a<n)
 | _,_=>none
def Oi (k:Nat) (x:AV):Option AO:=
 match x with
 | .tup l=>cT (l.getD k .u) (k<l.length)
 | .v (.tup l)=>cT (.v (l.getD k .fn0)) (k<l.length)
 | _=>none
def Om (x:AV):Option AO:=
 match x.nz with
 | .p n ver o=>cz (.p n ver o)
 | .pp y o=>cz (.pp y o)
 | .v (.fn (.func f))=>cz (.v (.fn (.func f)))
 | .fn (.func f) a c=>cz (.fn (.func f) a c)
 | _=>none
def J0 (hf:Nat->Option au) (ng:Bool) (x y:AV):Option AO:=
 match x.nz,y with
 | .v .p0, .v .p0=>cz (.v (.b (!ng)))
 | .p _ _ _, .v .p0=>cz (.v (.b ng))
 | .v .p0, .p _ _ _=>cz (.v (.b ng))
 | .pp _ _, .v .p0=>cz (.v (.b ng))
 | .p n ver o, .p n' ver' o'=>if n=n'/\ver=ver'/\o=o' then(match hf n with
  |some ob=>some ⟨.v (.b (!ng)),ob.ver=ver,[n],[]⟩
  |none=>none)else none
 | _,_=>none
def JZ (hf:Nat->Option au) (ok:TypeId->Nat->Nat->Bool) (x:AV):Option AO:=
 match x with
 | .p n ver o=>match hf n with
  |some ob=>match ob.el with
   |some T=>some ⟨.p n ver o,ob.ver=ver/\o<ob.cells.length/\ob.gr=false/\ok T ob.cells.length o=true,[n],[]⟩
   |none=>none
  |none=>none
 | _=>none
def On (x:AV):Option AO:=
 match x with
 | .sn=>cz (.v .p0)
 | .rs n ver o len _=>cT (.p n ver o) (0<len)
 | _=>none
def J1 (hf:Nat->Option au) (e:TypeId) (x y:AV):Option AO:=
 match x,y with
 | .v .p0, .v (.i .i64 0)=>cz (.v (.s []))
 | .p n ver o, .v (.i .i64 len)=>match hf n with
  |some ob=>some ⟨.v (.s ((ob.cells.take len.toNat).map AV.byte)),ob.ver=ver/\o=0/\ob.el=some e/\0<len/\len.toNat<=ob.cells.length/\len<=9223372036854775807/\ ∀y∈ob.cells.take len.toNat,y= .v (u8 y.byte),[n],[(n,none)]⟩
  |none=>none
 | _,_=>none
def AV.isAgg:AV->Prop
 | .agg _=>True
 | .v (.agg _)=>True
 | _=>False
def sU:List Nat->List PV->List PV->Option Bool
 |[],[],[]=>some true
 |0::ks, .b a::l, .b b::m=>(sU ks l m).map (a==b&& ·)
 |1::ks, .s a::l, .s b::m=>(sU ks l m).map (a==b&& ·)
 | _,_,_=>none
def iW:Bool->PV->PV->Option Bool
 |true, .s a, .s b=>some (a==b)
 |false, .i k a, .i k' b=>if k=k' then some (a==b)else none
 | _,_,_=>none
def LW (st:Bool) (key:PV):List AV->Prop
 | .v a:: .v _::r=>(iW st key a).isSome=true/\LW st key r
 |[]=>(iW st key key).isSome=true
 | _=>False
def oL (st:Bool) (z key:PV):List AV->PV
 | .v a:: .v b::r=>if iW st key a=some true then b else oL st z key r
 | _=>z
def xP (st:Bool) (key:PV):List AV->Bool
 | .v a:: .v _::r=>if iW st key a=some true then true else xP st key r
 | _=>false
def tM (st:Bool) (key val:PV):List AV->List AV
 | .v a:: .v b::r=>if iW st key a=some true then .v key:: .v val::r else .v a:: .v b::tM st key val r
 | _=>[.v key, .v val]
def ep (nm:Nat) (o:SO) (tf:Nat->AV) (hf:Nat->Option au):Option AO:=
 match o with
 | .mov x=>cz (x.ev tf)
 | .pick c a b=>match c.ev tf with
  | .v (.b true)=>cz (a.ev tf)
  | .v (.b false)=>cz (b.ev tf)
  | _=>none
 | .alloc t z=>some ⟨.p nm 0 0,True,[],[(nm,some ⟨0,z,false,some t⟩)]⟩
 | .box x=>some ⟨.p nm 0 0,(x.ev tf).mQ=true,[],[(nm,some ⟨0,(x.ev tf).cells,false,none⟩)]⟩
 | .build z ps=>match rq z (ps.map fun(a,b,x)=>(a,b,x.ev tf))with
  |some (cs,p)=>some ⟨iY cs,p,[],[]⟩
  |none=>none
 | .bsl w z ps=>match w,AV.Wi (ps.map (SX.ev tf))with
  |false,some xs=>some ⟨.fs xs,∀x∈xs,x.cells.length=z,[],[]⟩
  | _,_=>some ⟨.rs nm 0 0 ps.length z,(∀x∈ps.map (SX.ev tf),x.mQ=true/\x.cells.length=z),[],[(nm,some ⟨0,(ps.map (SX.ev tf)).flatMap AV.cells,false,none⟩)]⟩
 | .ld ag z x=>VB hf ag z (x.ev tf)
 | .st z a x=>match a.ev tf with
  | .p n ver o=>match hf n with
   |some ob=>some ⟨.v (.tup []),ob.ver=ver/\o+z<=ob.cells.length/\(x.ev tf).mQ=true/\(x.ev tf).cells.length=z,[n],
     [(n,some ⟨ob.ver,ob.cells.take o++(x.ev tf).cells++ob.cells.drop (o+z),ob.gr,ob.el⟩)]⟩
   |none=>none
  | _=>none
 | .bin op x y=>Oh op (x.ev tf) (y.ev tf)
 | .beq ng x y=>match x.ev tf,y.ev tf with
  | .v (.b a), .v (.b b)=>cz (.v (.b (if ng then !(a==b)else a==b)))
  | _,_=>none
 | .ceq ng ks x y=>match x.ev tf,y.ev tf with
  | .v (.agg l), .v (.agg m)=>match sU ks l m with
   |some r=>cz (.v (.b (if ng then !r else r)))
   |none=>none
  | _,_=>none
 | .un op x=>Xx op (x.ev tf)
 | .cvi k x=>match x.ev tf with
  | .v (.i _ a)=>cz (.v (.i k (k.wrap a)))
  | _=>none
 | .cvs x=>match x.ev tf with
  | .v (.s l)=>cz (.v (.s l))
  | _=>none
 | .b2s x=>match x.ev tf with
  | .v (.sl l)=>cT (.v (.s (l.map PV.byte))) (∀y∈l,y.isByte)
  | .fs l=>cT (.v (.s (l.map PV.byte))) (∀y∈l,y.isByte)
  | .sn=>cz (.v (.s []))
  | .rs n ver o len z=>match hf n with
   |some ob=>some ⟨.v (.s (((ob.cells.drop o).take len).map AV.byte)),ob.ver=ver/\z=1/\o+len<=ob.cells.length/\ ∀y∈(ob.cells.drop o).take len,y.isByte,[n],[]⟩
   |none=>none
  | _=>none
 | .s2b x=>match x.ev tf with
  | .v (.s l)=>cz (.v (.sl (l.map u8)))
  | _=>none
 | .mks z by_ l c=>match l.ev tf,c.ev tf with
  | .v (.i _ l), .v (.i _ c)=>some ⟨.rs nm 0 0 l.toNat z.length,0<=l/\l<=c/\by_*c<=140737488355328/\c<=140737488355328,[],[(nm,some ⟨0,(List.replicate c.toNat z).flatten,false,none⟩)]⟩
  | _,_=>none
 | .slS x lo hi=>match x.ev tf with
  | .v (.s a)=>match bounds a.length (lo.map (SX.ev tf)) (hi.map (SX.ev tf))with
   |some (l,h,p)=>cT (.v (.s ((a.take h).drop l))) p
   |none=>none
  | _=>none
 | .slL z x lo hi mx=>match x.ev tf,mx with
  | .v (.sl a),none=>match bounds a.length (lo.map (SX.ev tf)) (hi.map (SX.ev tf))with
   |some (l,h,p)=>cT (.v (.sl ((a.take h).drop l))) (p/\ ∀x∈a,x.cells.length=z)
   |none=>none
  | .fs a,none=>match bounds a.length (lo.map (SX.ev tf)) (hi.map (SX.ev tf))with
   |some (l,h,p)=>cT (.v (.sl ((a.take h).drop l))) (p/\ ∀x∈a,x.cells.length=z)
   |none=>none
  | .rs n ver o len z',none=>match bounds len (lo.map (SX.ev tf)) (hi.map (SX.ev tf))with
   |some (l,h,p)=>cT (.rs n ver (o+l*z) (h-l) z) (p/\z'=z)
   |none=>none
  | .v (.sl a),some mx=>match bounds a.length (lo.map (SX.ev tf)) (hi.map (SX.ev tf)),hi.map (SX.ev tf),mx.ev tf with
   |some (l,h,p),some (.v (.i _ hh)), .v (.i _ m)=>cT (.fs ((a.take h).drop l)) (p/\m=hh/\ ∀x∈a,x.cells.length=z)
   | _,_,_=>none
  | .fs a,some mx=>match bounds a.length (lo.map (SX.ev tf)) (hi.map (SX.ev tf)),hi.map (SX.ev tf),mx.ev tf with
   |some (l,h,p),some (.v (.i _ hh)), .v (.i _ m)=>cT (.fs ((a.take h).drop l)) (p/\m=hh/\ ∀x∈a,x.cells.length=z)
   | _,_,_=>none
  | .sn,some mx=>match bounds 0 (lo.map (SX.ev tf)) (hi.map (SX.ev tf)),hi.map (SX.ev tf),mx.ev tf with
   |some (_,_,p),some (.v (.i _ hh)), .v (.i _ m)=>cT (.fs []) (p/\m=hh)
   | _,_,_=>none
  | .rs n ver o len z',some mx=>match bounds len (lo.map (SX.ev tf)) (hi.map (SX.ev tf)),hi.map (SX.ev tf),mx.ev tf with
   |some (l,h,p),some (.v (.i _ hh)), .v (.i _ m)=>cT (.rs n ver (o+l*z) (h-l) z) (p/\m=hh/\z'=z)
   | _,_,_=>none
  | _,_=>none
 | .slA n z x lo hi mx=>match x.ev tf,mx with
  | .p m ver o,none=>match hf m,bounds n (lo.map (SX.ev tf)) (hi.map (SX.ev tf))with
   |some ob,some (l,h,p)=>some ⟨.rs m ver (o+l*z) (h-l) z,p/\ob.ver=ver/\o+n*z<=ob.cells.length,[m],[]⟩
   | _,_=>none
  | _,_=>none
 | .fad o x=>Oj o (x.ev tf)
 | .fld ag o z x=>cT (if ag then iY (((x.ev tf).cells.drop o).take z)else(x.ev tf).cells.getD o .u) ((x.ev tf).isAgg/\o+z<=(x.ev tf).cells.length)
 | .ixs z x i=>Ol z (x.ev tf) (i.ev tf)
 | .ixa n z x i=>Ok n z (x.ev tf) (i.ev tf)
 | .ixS x i=>match x.ev tf,i.ev tf with
  | .v (.s l), .v (.i _ a)=>cT (.v (u8 (l.getD a.toNat 0))) (0<=a/\a<l.length)
  | _,_=>none
 | .ixV ag n z x i=>match i.ev tf with
  | .v (.i _ a)=>cT (if ag then iY (((x.ev tf).cells.drop (a.toNat*z)).take z)else(x.ev tf).cells.getD (a.toNat*z) .u) ((x.ev tf).isAgg/\0<=a/\a<n/\a.toNat*z+z<=(x.ev tf).cells.length)
  | _=>none
 | .ext x k=>Oi k (x.ev tf)
 | .len x=>match lenOf (x.ev tf)with
  |some n=>cz (.v (.i .i64 n))
  |none=>none
 | .lenS x=>match x.ev tf with
  | .v (.s l)=>cz (.v (.i .i64 l.length))
  | _=>none
 | .lenA n=>cz (.v (.i .i64 n))
 | .mm mx x y=>match x.ev tf,y.ev tf with
  | .v (.i k a), .v (.i k' b)=>cT (.v (.i k (if mx then(if b>a then b else a)else(if b<a then b else a)))) (k=k')
  | _,_=>none
 | .app e z by_ x y=>match oX hf z (y.ev tf)with
  |some (ys,k,p,r)=>
   match x.ev tf with
   | .sn=>if k=0 then some ⟨.sn,p,r,[]⟩else some ⟨.rs nm 0 0 k z,p/\(∀y∈ys,y.one=true)/\k*by_<=140737488355328/\k<=140737488355328,r,[(nm,some ⟨0,ys,true,some e⟩)]⟩
   | .fs l=>if k=0 then some ⟨.fs l,p,r,[]⟩else some ⟨.rs nm 0 0 (l.length+k) z,p/\(∀y∈ys,y.one=true)/\(∀x∈l,x.cells.length=z)/\(l.length+k)*by_<=140737488355328/\l.length+k<=140737488355328,r,[(nm,some ⟨0,(l.flatMap PV.cells).map .v++ys,true,some e⟩)]⟩
   | .rs n ver o len z'=>match hf n with
    |some ob=>some ⟨.rs n (ver+1) 0 (len+k) z,p/\(∀y∈ys,y.one=true)/\ob.ver=ver/\o=0/\z'=z/\len*z<=ob.cells.length/\(len+k)*by_<=140737488355328/\len+k<=140737488355328,
      n::r,[(n,some ⟨ver+1,ob.cells.take (len*z)++ys,true,if ob.el=some e then some e else none⟩)]⟩
    |none=>none
   | _=>none
  |none=>none
 | .cpy z x y=>match oX hf z (y.ev tf),x.ev tf with
  |some (ys,k,p,r), .rs n ver o len z'=>match hf n with
   |some ob=>some ⟨.v (.i .i64 (min k len:Nat)),p/\(∀y∈ys,y.one=true)/\ob.ver=ver/\z'=z/\o+len*z<=ob.cells.length,n::r,
     [(n,some ⟨ob.ver,ob.cells.take o++ys.take (min k len*z)++ob.cells.drop (o+min k len*z),ob.gr,ob.el⟩)]⟩
   |none=>none
  | _,_=>none
 | .mkf f a c=>cz (match a,c with
  |[],[]=> .v (.fn f)
  | _,_=> .fn f (a.map (SX.ev tf)) (c.map (SX.ev tf)))
 | .nck x=>Om (x.ev tf)
 | .mki t x=>match x.ev tf with
  | .v y=>cz (.v (.ifc t y))
  | _=>none
 | .peq ng x y=>J0 hf ng (x.ev tf) (y.ev tf)
 | .cvp ok x=>JZ hf ok (x.ev tf)
 | .sld x=>On (x.ev tf)
 | .ust e x y=>J1 hf e (x.ev tf) (y.ev tf)
 | .clr z x=>match x.ev tf with
  | .rs n ver o len z'=>match hf n with
   |some ob=>some ⟨.v (.tup []),ob.ver=ver/\z'=z.length/\o+len*z'<=ob.cells.length,[n],
     [(n,some ⟨ob.ver,ob.cells.take o++(List.replicate len z).flatten++ob.cells.drop (o+len*z'),ob.gr,ob.el⟩)]⟩
   |none=>none
  | _=>none
 | .snl ng x=>match x.ev tf with
  | .v (.sl [])=>cz .ub
  | .v (.sl (_:: _))=>cz (.v (.b ng))
  | .sn=>cz (.v (.b (!ng)))
  | .fs []=>cz .ub
  | .fs (_:: _)=>cz (.v (.b ng))
  | .rs _ _ _ _ _=>cz (.v (.b ng))
  | _=>none
 | .mkm=>some ⟨.mp nm,True,[],[(nm,some ⟨0,[],false,none⟩)]⟩
 | .mget c st z x k=>match x.ev tf,k.ev tf with
  | .mp n, .v key=>match hf n with
   |some ob=>some ⟨if c then .tup [.v (oL st z key ob.cells), .v (.b (xP st key ob.cells))]else .v (oL st z key ob.cells),LW st key ob.cells,[n],[]⟩
   |none=>none
  | _,_=>none
 | .mset st x k v=>match x.ev tf,k.ev tf,v.ev tf with
  | .mp n, .v key, .v val=>match hf n with
   |some ob=>some ⟨.v (.tup []),LW st key ob.cells,[n],[(n,some ⟨ob.ver,tM st key val ob.cells,ob.gr,ob.el⟩)]⟩
   |none=>none
  | _,_,_=>none
 | .stop=>none
 | .call _ _=>none
end Go.Dom
namespace Go.Dom
def Cg (q a b:Int):Prop:= ∃k,a-b=q*k
namespace Cg
variable {q a b c d:Int}
theorem iI (a:Int):Cg q a a:=⟨0,by grind⟩
theorem of_eq (h:a=b):Cg q a b:=h▸iI a
theorem symm (h:Cg q a b):Cg q b a:=by obtain⟨k,h⟩:=h;exact⟨-k,by grind⟩
theorem trans (h:Cg q a b) (g:Cg q b c):Cg q a c:=by
 obtain⟨k,h⟩:=h;obtain⟨l,g⟩:=g;exact⟨k+l,by grind⟩
theorem add (h:Cg q a b) (g:Cg q c d):Cg q (a+c) (b+d):=by
 obtain⟨k,h⟩:=h;obtain⟨l,g⟩:=g;exact⟨k+l,by grind⟩
theorem sub (h:Cg q a b) (g:Cg q c d):Cg q (a-c) (b-d):=by
 obtain⟨k,h⟩:=h;obtain⟨l,g⟩:=g;exact⟨k-l,by grind⟩
theorem mul (h:Cg q a b) (g:Cg q c d):Cg q (a*c) (b*d):=by
 obtain⟨k,h⟩:=h;obtain⟨l,g⟩:=g;exact⟨k*c+b*l,by grind⟩
theorem emod (q a:Int):Cg q (a%q) a:=⟨-(a/q),by have:=Int.mul_ediv_add_emod a q;grind⟩
end Cg
def Iv (q a:Int):Prop:= ∃b,Cg q (a*b) 1
theorem Iv.mul {q a b:Int} (h:Iv q a) (g:Iv q b):Iv q (a*b):=by
 obtain⟨x,h⟩:=h;obtain⟨y,g⟩:=g;exact⟨x*y,(Cg.of_eq (by grind)).trans (h.mul g)⟩
theorem Iv.one (q:Int):Iv q 1:=⟨1,Cg.of_eq rfl⟩
theorem Iv.neg {q a:Int} (h:Iv q a):Iv q (-a):=by
 obtain⟨x,h⟩:=h;exact⟨-x,(Cg.of_eq (by grind)).trans h⟩
theorem Iv.cg {q a b:Int} (h:Iv q a) (g:Cg q a b):Iv q b:=by
 obtain⟨x,h⟩:=h;exact⟨x,(g.symm.mul (Cg.iI x)).trans h⟩
theorem Iv.cancel {q a b:Int} (h:Iv q a) (g:Cg q (a*b) 0):Cg q b 0:=by
 obtain⟨x,h⟩:=h;have h1:=g.mul (Cg.iI (q:=q) x);have h2:=(h.symm.mul (Cg.iI (q:=q) b));exact((Cg.of_eq (by grind)).trans h2).trans ((Cg.of_eq (by grind)).trans (h1.trans (Cg.of_eq (by grind))))
def gR:List Int->Int->Int
 |[],_=>0
 |a::p,x=>a+x*gR p x
def quo (a:Int):List Int->List Int
 |[]=>[]
 | _::p=>match p with
  |[]=>[]
  |b::r=>gR (b::r) a::quo a (b::r)
theorem Hk (a:Int): ∀p:List Int,(quo a p).length=p.length-1
 |[]=>rfl
 |[_]=>rfl
 |c::b::r=>by
  have:=Hk a (b::r);simp only[quo,List.length_cons]at this⊢;omega
theorem Fu (a x:Int): ∀p:List Int,gR p x-gR p a=(x-a)*gR (quo a p) x
 |[]=>by simp[gR,quo]
 |[_]=>by simp[gR,quo]
 |c::b::r=>by
  have:=Fu a x (b::r);show c+x*gR (b::r) x-(c+a*gR (b::r) a)=(x-a)*(gR (b::r) a+x*gR (quo a (b::r)) x);generalize gR (b::r) x=P at*;generalize gR (b::r) a=A at*;generalize gR (quo a (b::r)) x=Q at*
  grind
def NU (q:Int):List Int->Prop
 |[]=>True
 |a::l=>(∀x∈l,Iv q (x-a))/\NU q l
theorem GG {q:Int}: ∀(l:List Int) (p:List Int),NU q l->p.length<=l.length->(∀x∈l,Cg q (gR p x) 0)-> ∀x,Cg q (gR p x) 0
 |[],p,_,hn,_,x=>by
  have:p=[]:=gJ.1 (by simpa using hn)
  subst this;exact Cg.of_eq rfl
 |a::l,p,hp,hn,hv,x=>by
  have hq:=GG l (quo a p) hp.2 (by rw[Hk];simp only[List.length_cons]at hn;omega) (fun y hy=>by
   have h1:=hv y (.tail _ hy);have h2:=hv a (.head _);exact(hp.1 y hy).cancel ((Cg.of_eq (Fu a y p).symm).trans ((h1.sub h2).trans (Cg.of_eq (by grind))))) x
  have h2:=hv a (.head _);have h3:=Fu a x p;have h4:=(Cg.iI (q:=q) (x-a)).mul hq;exact((Cg.of_eq (by grind)).trans (h4.add h2)).trans (Cg.of_eq (by grind))
def DE:List Int->List Int->List Int
 |[],b=>b
 |a,[]=>a
 |a::p,b::r=>(a+b)::DE p r
theorem tT (x:Int): ∀p r:List Int,gR (DE p r) x=gR p x+gR r x
 |[],r=>by simp[DE,gR]
 |a::p,[]=>by simp[DE,gR]
 |a::p,b::r=>by
  have:=tT x p r;simp only[DE,gR];grind
theorem rO: ∀p r:List Int,(DE p r).length=max p.length r.length
 |[],r=>by simp[DE]
 |a::p,[]=>by simp[DE]
 |a::p,b::r=>by
  have:=rO p r;simp only[DE,List.length_cons];omega
theorem tO (c x:Int): ∀p:List Int,gR (p.map (c* ·)) x=c*gR p x
 |[]=>by simp[gR]
 |a::p=>by
  have:=tO c x p;simp only[aS,gR];grind
theorem Pc {q:Int} {l p r:List Int} (h:NU q l) (hp:p.length<=l.length) (hr:r.length<=l.length) (hv: ∀x∈l,Cg q (gR p x) (gR r x)) (x:Int):Cg q (gR p x) (gR r x):=by
 have h1:=GG l (DE p (r.map (-1* ·))) h (by rw[rO,aE];omega) (fun y hy=>by
  rw[tT,tO];exact((hv y hy).add (Cg.iI _)).trans (Cg.of_eq (by grind))) x
 rw[tT,tO]at h1;exact((Cg.of_eq (by grind)).trans (h1.add (Cg.iI (gR r x)))).trans (Cg.of_eq (by grind))
def Bv (l:List Int) (x:Int):Int:=(l.map fun a=>x-a).prod
def DG:List Int->List Int
 |[]=>[1]
 |a::l=>DE (0::DG l) ((DG l).map (-a* ·))
theorem oQ (a:Int) (l:List Int) (x:Int):Bv (a::l) x=(x-a)*Bv l x:=by simp[Bv]
theorem vD (x:Int): ∀l:List Int,gR (DG l) x=Bv l x
 |[]=>by simp[DG,gR,Bv]
 |a::l=>by
  have:=vD x l;rw[DG,tT,tO,oQ,gR,this];grind
theorem DH: ∀l:List Int,(DG l).length=l.length+1
 |[]=>rfl
 |a::l=>by
  have:=DH l;rw[DG,rO,aE,List.length_cons,List.length_cons];omega
theorem Ms {l:List Int} {x:Int} (h:x∈l):Bv l x=0:=by
 induction l with
 |nil=>exact absurd h (by simp)
 |cons a l ih=>
  rw[oQ];rcases bL.1 h with rfl|h
  ·grind
  ·rw[ih h];grind
theorem Mr {q:Int} {l:List Int} {x:Int} (h: ∀a∈l,Iv q (x-a)):Iv q (Bv l x):=by
 induction l with
 |nil=>exact Iv.one q
 |cons a l ih=>rw[oQ];exact(h a (.head _)).mul (ih fun b hb=>h b (.tail _ hb))
def QH (f:Nat->Int):Nat->Int
 |0=>0
 |n+1=>QH f n+f n
theorem FO {q:Int} {f g:Nat->Int}: ∀{n:Nat},(∀i,i<n->Cg q (f i) (g i))->Cg q (QH f n) (QH g n)
 |0,_=>Cg.iI _
 |n+1,h=>(FO fun i hi=>h i (by omega)).add (h n (by omega))
theorem Ea {q:Int} {f:Nat->Int}: ∀{n:Nat},(∀i,i<n->Cg q (f i) 0)->Cg q (QH f n) 0
 |0,_=>Cg.iI _
 |n+1,h=>((Ea fun i hi=>h i (by omega)).add (h n (by omega))).trans (Cg.of_eq (by omega))
theorem BJ {q:Int} {f:Nat->Int} {k:Nat}: ∀{n:Nat},k<n->(∀i,i<n->i≠k->Cg q (f i) 0)->Cg q (QH f n) (f k)
 |0,hk,_=>by omega
 |n+1,hk,h=>by
  by_cases e:k=n
  ·subst e;exact((Ea fun i hi=>h i (by omega) (by omega)).add (Cg.iI (f k))).trans (Cg.of_eq (by omega))
  ·exact((BJ (by omega) fun i hi hn=>h i (by omega) hn).add (h n (by omega) (kP e))).trans (Cg.of_eq (by omega))
def LR (P:Nat->List Int) (f:Nat->Int):Nat->List Int
 |0=>[]
 |i+1=>DE (LR P f i) ((P i).map (f i* ·))
theorem Bj (P:Nat->List Int) (f:Nat->Int) (x:Int): ∀n,gR (LR P f n) x=QH (fun i=>f i*gR (P i) x) n
 |0=>rfl
 |n+1=>by rw[LR,tT,tO,Bj P f x n];rfl
theorem Bk {P:Nat->List Int} {f:Nat->Int} {m:Nat}: ∀{n},(∀i,i<n->(P i).length<=m)->(LR P f n).length<=m
 |0,_=>aH _
 |n+1,h=>by
  have:=Bk (P:=P) (f:=f) (m:=m) (n:=n) fun i hi=>h i (by omega)
  have:=h n (by omega)
  rw[LR,rO,aE];omega
theorem NU.iv {q:Int}: ∀{l:List Int} {i:Nat},NU q l->i<l.length-> ∀a∈l.eraseIdx i,Iv q (l.getD i 0-a)
 |[],_,_,hi,_,_=>by simp at hi
 |b::l,0,h,_,a,ha=>by
  have:=(h.1 a (by simpa using ha)).neg
  exact this.cg (Cg.of_eq (by simp only[fw];omega))
 |b::l,i+1,h,hi,a,ha=>by
  have hi':i<l.length:=by simpa using hi
  rw[cA];rw[List.eraseIdx_cons_succ]at ha;rcases bL.1 ha with rfl|ha
  ·refine h.1 _ ?_;rw[aR,bJ hi'];exact iR hi'
  ·exact NU.iv h.2 hi' a ha
theorem mem_erase {l:List Int} {i k:Nat} (hi:i<l.length) (hk:k<l.length) (h:i≠k):l.getD k 0∈l.eraseIdx i:=by
 induction l generalizing i k with
 |nil=>simp at hi
 |cons b l ih=>
  cases i with
  |zero=>
   cases k with
   |zero=>exact absurd rfl h
   |succ k=>
    have hk':k<l.length:=by simpa using hk
    rw[cA,List.eraseIdx_cons_zero,aR,bJ hk'];exact iR hk'
  |succ i=>
   rw[List.eraseIdx_cons_succ]
   cases k with
   |zero=>exact .head _
   |succ k=>
    rw[cA];exact .tail _ (ih (by simpa using hi) (by simpa using hk) (by omega))
def Vc (l:List Int) (w:Nat->Int) (i:Nat) (x:Int):Int:=w i*Bv (l.eraseIdx i) x
variable {q:Int} {l:List Int} {w:Nat->Int}
theorem YK (hp:NU q l) (hw: ∀i,i<l.length->Cg q (w i*Bv (l.eraseIdx i) (l.getD i 0)) 1) {c:List Int} (hc:c.length<=l.length) (x:Int):Cg q (QH (fun i=>gR c (l.getD i 0)*Vc l w i x) l.length) (gR c x):=by
 have h:=Pc (q:=q) (l:=l) (p:=LR (fun i=>DG (l.eraseIdx i)) (fun i=>gR c (l.getD i 0)*w i) l.length) (r:=c) hp
  (Bk fun i hi=>by rw[DH,Ch];split<;>omega) hc (fun y hy=>by
   obtain⟨k,hk,rfl⟩:=List.mem_iff_getElem.1 hy;have e:l[k]=l.getD k 0:=by rw[aR,bJ hk];rfl
   rw[e,Bj];refine(BJ hk fun i hi hn=> ?_).trans ?_
   ·rw[vD,Ms (mem_erase hi hk hn)];exact Cg.of_eq (by grind)
   ·rw[vD];exact(Cg.of_eq (by grind)).trans (((Cg.iI (gR c (l.getD k 0))).mul (hw k hk)).trans (Cg.of_eq (by grind)))) x
 rw[Bj]at h;refine Cg.trans (Cg.of_eq ?_) h;congr 1
 funext i
 rw[vD];unfold Vc;grind
theorem Tt (hw: ∀i,i<l.length->Cg q (w i*Bv (l.eraseIdx i) (l.getD i 0)) 1) {i:Nat} (hi:i<l.length) {x:Int} (h: ∀a∈l.eraseIdx i,Iv q (x-a)):Iv q (Vc l w i x):=by
 refine Iv.mul ⟨_,hw i hi⟩ (Mr h)
end Go.Dom
