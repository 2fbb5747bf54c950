/- Part of the proof. -/
import Derived.Below
import Derived.Calls
set_option linter.all false
namespace Go
abbrev af:=@if_neg
abbrev ah:=@if_pos
abbrev ak:=@if_false
abbrev aA:=@if_true
abbrev aJ:=@absurd
abbrev aS:=@decide_eq_true
abbrev bc:=@decide_eq_true_eq
abbrev b9:=@decide_eq_false
abbrev dY:=@beq_eq_false_iff_ne
abbrev dZ:=@beq_iff_eq
abbrev jm:=@decide_eq_decide
abbrev kR:=@beq_self_eq_true
abbrev kS:=@decide_eq_false_iff_not
abbrev qI:=@bne_self_eq_false
abbrev tZ:=@bne_iff_ne
abbrev DI:=@not_false_eq_true
abbrev ai:=@Option.some.injEq
abbrev aB:=@Nat.le_refl
abbrev aL:=@Nat.mod_lt
abbrev aR:=@List.length_map
abbrev aT:=@Nat.zero_le
abbrev aV:=@Bool.and_eq_true
abbrev bu:=@Option.bind_eq_some_iff
abbrev bM:=@Nat.mod_eq_of_lt
abbrev bR:=@List.getD_eq_getElem?_getD
abbrev bT:=@Go.Sem.run_bind
abbrev ba:=@Nat.lt_of_lt_of_le
abbrev br:=@List.map_cons
abbrev bw:=@Nat.mul_comm
abbrev bG:=@List.getElem?_eq_getElem
abbrev bH:=@List.map_nil
abbrev bJ:=@List.all_eq_true
abbrev bQ:=@Bool.false_eq_true
abbrev bU:=@List.length_append
abbrev bV:=@List.mem_cons
abbrev cd:=@Nat.mul_mod
abbrev cq:=@List.take_length
abbrev cr:=@Nat.mul_assoc
abbrev cv:=@List.getElem?_eq_some_iff
abbrev cB:=@Bool.true_and
abbrev cF:=@Nat.pow_add
abbrev cG:=@List.mem_map
abbrev cI:=@Bool.eq_iff_iff
abbrev cK:=@Nat.mul_le_mul_right
abbrev cO:=@Nat.add_mul
abbrev cQ:=@Bool.not_true
abbrev cW:=@Nat.pow_le_pow_right
abbrev da:=@List.length_take
abbrev db:=@Bool.not_false
abbrev dc:=@List.take_of_length_le
abbrev dA:=@Bool.eq_false_iff
abbrev dC:=@Bool.not_eq_true'
abbrev dD:=@Nat.lt_of_le_of_lt
abbrev dJ:=@Prod.mk.injEq
abbrev dM:=@Option.map_eq_some_iff
abbrev dN:=@Nat.mod_mod
abbrev dO:=@List.drop_length
abbrev dW:=@Bool.and_self
abbrev eH:=@Nat.mul_one
abbrev fj:=@Nat.div_div_eq_div_mul
abbrev fk:=@Nat.le_of_ble_eq_true
abbrev fo:=@Array.ext'
abbrev fp:=@Bool.false_and
abbrev fE:=@List.mem_range
abbrev fF:=@Nat.div_le_self
abbrev fG:=@Nat.zero_add
abbrev fP:=@List.flatMap_cons
abbrev fU:=@List.getElem?_take
abbrev fV:=@Nat.le_trans
abbrev gj:=@Nat.lt_trans
abbrev gJ:=@Nat.add_comm
abbrev gK:=@Nat.mul_lt_mul''
abbrev gL:=@Nat.pow_mod
abbrev gX:=@Nat.pow_mul
abbrev gY:=@List.getElem?_map
abbrev gZ:=@List.append_assoc
abbrev ij:=@Nat.lt_or_ge
abbrev ik:=@List.mem_singleton
abbrev il:=@Nat.pow_pos
abbrev iq:=@List.getD_cons_zero
abbrev iu:=@List.not_mem_nil
abbrev iv:=@List.getElem_of_mem
abbrev iK:=@UInt8.toNat_ofNat'
abbrev iL:=@Nat.div_lt_iff_lt_mul
abbrev iM:=@List.mem_append
abbrev iN:=@Iff.rfl
abbrev iO:=@Nat.div_eq_of_lt
abbrev iW:=@List.getD_cons_succ
abbrev iX:=@Nat.sub_self
abbrev iY:=@Nat.div_add_mod
abbrev iZ:=@List.length_eq_zero_iff
abbrev ja:=@Array.getD_eq_getD_getElem?
abbrev jb:=@List.mem_of_getElem?
abbrev jq:=@Nat.mul_le_mul
abbrev jr:=@List.append_nil
abbrev js:=@Bool.and_true
abbrev jN:=@UInt8.toNat_inj
abbrev jO:=@Nat.div_one
abbrev jP:=@Nat.one_mul
abbrev jQ:=@List.getElem_mem
abbrev jR:=@List.mem_cons_of_mem
abbrev jS:=@List.mem_flatMap
abbrev kz:=@Nat.succ_mul
abbrev kA:=@Ne.symm
abbrev kB:=@Nat.le_of_lt
abbrev kC:=@BitVec.toNat_ofNat
abbrev kD:=@List.eq_nil_of_length_eq_zero
abbrev kE:=@Bool.false_or
abbrev kF:=@Go.World.cell?_of_block
abbrev lg:=@Nat.add_mod
abbrev lh:=@Nat.gcd_comm
abbrev lj:=@Nat.mod_mul_mod
abbrev lk:=@Nat.add_assoc
abbrev lu:=@Nat.mul_le_mul_left
abbrev lA:=@Nat.mul_add
abbrev mI:=@Array.getElem?_eq_some_iff
abbrev jL:=@List.drop_eq_getElem_cons
abbrev jM:=@List.drop_of_length_le
abbrev kL:=@List.size_toArray
abbrev kM:=@List.getElem?_drop
abbrev kN:=@Nat.testBit_eq_decide_div_mod_eq
abbrev kO:=@List.mem_of_mem_take
abbrev kP:=@List.map_map
abbrev kQ:=@Nat.eq_zero_or_pos
abbrev lJ:=@List.length_drop
abbrev lK:=@Nat.mod_one
abbrev lL:=@Nat.mul_mod_mod
abbrev lO:=@Nat.one_pow
abbrev nh:=@List.length_set
abbrev ni:=@Nat.lt_irrefl
abbrev nj:=@List.any_eq_true
abbrev nk:=@List.map_append
abbrev nr:=@List.mapIdx_cons
abbrev nu:=@Int.mul_add
abbrev ny:=@Nat.add_mul_div_left
abbrev oZ:=@Int.emod_nonneg
abbrev o5:=@Nat.gcd_rec
abbrev o6:=@Nat.add_sub_cancel
abbrev o7:=@Nat.mul_pos
abbrev o9:=@Int.toNat_of_nonneg
abbrev pd:=@List.mem_of_mem_drop
abbrev pg:=@Int.mul_assoc
abbrev pj:=@List.length_eq_one_iff
abbrev pk:=@Nat.min_eq_left
abbrev pq:=@Nat.mul_pow
abbrev px:=@Nat.mod_mul
abbrev qt:=@List.flatMap_map
abbrev qu:=@Nat.pow_lt_pow_iff_right
abbrev qv:=@Int.emod_add_mul_ediv
abbrev qw:=@Int.mul_neg
abbrev qx:=@Int.natAbs_mul
abbrev qy:=@List.length_pos_iff
abbrev qz:=@Bool.or_eq_true
abbrev qA:=@List.map_congr_left
abbrev qB:=@Int.mul_sub
abbrev qC:=@Go.RowKit.Below.refl
abbrev qD:=@Nat.mod_mul_right_div_self
abbrev qE:=@Int.emod_lt_of_pos
abbrev qF:=@Bool.and_false
abbrev qG:=@Bool.true_or
abbrev qH:=@Nat.two_mul
abbrev tB:=@Nat.not_lt_zero
abbrev tC:=@Nat.le_div_iff_mul_le
abbrev tD:=@Int.one_mul
abbrev tE:=@List.getElem?_append_left
abbrev tF:=@List.mem_cons_self
abbrev tG:=@Int.mul_comm
abbrev tH:=@Array.getElem?_append_left
abbrev tI:=@Nat.mod_le
abbrev tJ:=@List.getElem?_range
abbrev tK:=@Nat.add_mul_mod_self_left
abbrev tL:=@List.ext_getElem
abbrev tM:=@Array.getElem?_modify
abbrev tN:=@List.take_append_drop
abbrev tO:=@Nat.zero_mul
abbrev tP:=@List.nodup_cons
abbrev tQ:=@Nat.mod_mod_of_dvd
abbrev tR:=@Int.neg_mul
abbrev tS:=@List.flatMap_append
abbrev tT:=@Nat.lt_log2_self
abbrev tU:=@Option.isSome_iff_exists
abbrev tV:=@Nat.div_mul_le_self
abbrev tW:=@List.map_drop
abbrev tX:=@List.getElem?_eq_none
abbrev tY:=@Decidable.byContradiction
abbrev wP:=@List.any_eq_false
abbrev wQ:=@List.length_range
abbrev wR:=@Nat.log2_lt
abbrev wS:=@Option.some.inj
abbrev wT:=@Bool.not_not
abbrev wU:=@List.map_set
abbrev wV:=@Go.Sem.run_map
abbrev wW:=@List.drop_take
abbrev wX:=@Nat.mul_add_div
abbrev wY:=@Array.mapM_eq_mapM_toList
abbrev wZ:=@Array.getElem?_setIfInBounds_ne
abbrev w9:=@Array.getElem?_eq_getElem
abbrev xb:=@Nat.exists_eq_add_of_le
abbrev xc:=@UInt8.lt_iff_toNat_lt
abbrev xd:=@Go.MapKept.run_getObj_map
abbrev xg:=@Go.MapKept.run_findKey
abbrev xh:=@List.mapM_cons
abbrev xj:=@Nat.pow_succ'
abbrev xk:=@Bool.not_eq_false
abbrev xl:=@List.set_eq_take_append_cons_drop
abbrev xo:=@Bool.not_eq_false'
abbrev xp:=@Nat.lt_succ_self
abbrev xq:=@Nat.le_total
abbrev xu:=@List.map_take
abbrev xw:=@Go.IntKind.wrap_u8
abbrev C4:=@Int.add_mul_emod_self_left
abbrev C5:=@Nat.mul_lt_mul_of_pos_right
abbrev C6:=@List.mem_filterMap
abbrev C8:=@Nat.two_pow_pos
abbrev C9:=@List.erase_cons_tail
abbrev Da:=@List.range_eq_range'
abbrev Db:=@Int.ediv_emod_unique
abbrev Dc:=@Nat.gcd_dvd_left
abbrev Dd:=@List.append_toArray
abbrev De:=@List.drop_succ_cons
abbrev Df:=@Nat.Coprime.pow_left
abbrev Dg:=@Array.mem_of_getElem?
abbrev Dh:=@List.take_append
abbrev Di:=@Nat.gcd_zero_right
abbrev Dj:=@Nat.pow_dvd_pow
abbrev Dk:=@List.push_toArray
abbrev Dl:=@Nat.le_antisymm
abbrev Dm:=@Nat.mul_mod_mul_right
abbrev Dn:=@Int.ediv_eq_zero_of_lt
abbrev Dp:=@Nat.mul_div_cancel
abbrev Dq:=@Int.mul_left_comm
abbrev Dr:=@Array.replicate_succ
abbrev Dt:=@List.getElem?_append
abbrev Du:=@Array.toList_map
abbrev Dv:=@Nat.dvd_of_mod_eq_zero
abbrev Dw:=@Nat.pow_lt_pow_right
abbrev Dx:=@Bool.not_eq_true
abbrev Dy:=@Bool.and_eq_false_iff
abbrev Dz:=@Nat.mul_right_comm
abbrev DA:=@Nat.mul_left_comm
abbrev DB:=@Bool.or_eq_false_iff
abbrev DC:=@List.length_replicate
abbrev DD:=@List.ext_getElem?
abbrev DE:=@List.getElem?_append_right
abbrev DF:=@Nat.le_of_not_lt
abbrev DG:=@Nat.gcd_dvd_right
abbrev DH:=@Nat.lt_trichotomy
abbrev Jc:=@List.take_succ_eq_append_getElem
abbrev Jd:=@Int.fdiv_eq_ediv_of_nonneg
abbrev Je:=@List.dropLast_concat_getLast
abbrev Jf:=@Nat.and_two_pow_sub_one_eq_mod
abbrev Jg:=@Nat.mul_lt_mul_of_pos_left
abbrev Jh:=@Int.ediv_neg_of_neg_of_pos
abbrev Ji:=@Nat.two_pow_add_eq_or_of_lt
end Go
namespace Go.Dom
open Go.RowKit
abbrev Bytes:=List UInt8
inductive PV where
 |b (x:Bool)
 |i (k:IntKind) (n:Int)
 |s (x:Bytes)
 |agg (l:List PV)
 |tup (l:List PV)
 |sl (l:List PV)
 |fn (f:Fn)
 |fn0
 |p0
 |if0
 |ifc (t:TypeId) (v:PV)
 |pt (x:PV) (o:Nat)
 |fc (f:FuncId) (a c:List PV)
 deriving Inhabited
def PV.cells:PV->List PV
 | .agg l=>l
 |x=>[x]
def PV.one:PV->Bool
 | .agg _=>false
 | .tup _=>false
 | _=>true
abbrev Rd:=Nat->Nat->Option Value
inductive PR (rd:Rd):PV->Value->Prop where
 |b (x:Bool):PR rd (.b x) (.bool x)
 |i (k:IntKind) (n:Int):PR rd (.i k n) (.int k n)
 |s (x:Bytes):PR rd (.s x) (.string ⟨x.toArray⟩)
 |agg (l:List PV) (vs:List Value) (h1: ∀x∈l,x.one=true) (hl:l.length=vs.length) (h: ∀(k:Nat) (x:PV) (v:Value),l[k]?=some x->vs[k]?=some v->PR rd x v):PR rd (.agg l) (.agg vs.toArray)
 |tup (l:List PV) (vs:List Value) (hl:l.length=vs.length) (h: ∀(k:Nat) (x:PV) (v:Value),l[k]?=some x->vs[k]?=some v->PR rd x v):PR rd (.tup l) (.tuple vs.toArray)
 |sl0:PR rd (.sl []) (.slice none 0 0)
 |sle (a:Addr) (cap:Nat):PR rd (.sl []) (.slice (some a) 0 cap)
 |sl (l:List PV) (z:Nat) (vs:List Value) (bk of cap:Nat) (hc:l.length<=cap) (hz: ∀x∈l,x.cells.length=z) (h1: ∀y∈l.flatMap PV.cells,y.one=true)
   (hl:(l.flatMap PV.cells).length=vs.length)
   (hr: ∀(k:Nat) (v:Value),vs[k]?=some v->rd bk (of+k)=some v)
   (h: ∀(k:Nat) (x:PV) (v:Value),(l.flatMap PV.cells)[k]?=some x->vs[k]?=some v->PR rd x v):
   PR rd (.sl l) (.slice (some ⟨bk,of,none⟩) l.length cap)
 |fn (f:Fn):PR rd (.fn f) (.func f #[] #[])
 |fn0:PR rd .fn0 .nilFunc
 |p0:PR rd .p0 (.pointer none)
 |if0:PR rd .if0 .nilIface
 |ifc (t:TypeId) (x:PV) (v:Value) (h:PR rd x v):PR rd (.ifc t x) (.iface t v)
 |pt (x:PV) (o:Nat) (vs:List Value) (bk of:Nat) (h1: ∀y∈x.cells,y.one=true) (hl:x.cells.length=vs.length)
   (hr: ∀(k:Nat) (v:Value),vs[k]?=some v->rd bk (of+k)=some v)
   (h: ∀(k:Nat) (y:PV) (v:Value),x.cells[k]?=some y->vs[k]?=some v->PR rd y v):PR rd (.pt x o) (.pointer (some ⟨bk,of+o,none⟩))
 |fc (f:FuncId) (a c:List PV) (va vc:List Value) (hla:a.length=va.length) (hlc:c.length=vc.length)
   (ha: ∀(k:Nat) (x:PV) (v:Value),a[k]?=some x->va[k]?=some v->PR rd x v)
   (hc: ∀(k:Nat) (x:PV) (v:Value),c[k]?=some x->vc[k]?=some v->PR rd x v):PR rd (.fc f a c) (.func (.func f) va.toArray vc.toArray)
theorem PR.mono {rd rd':Rd} (hr: ∀b o v,rd b o=some v->rd' b o=some v) {x:PV} {v:Value} (h:PR rd x v):PR rd' x v:=by
 induction h with
 |b x=>exact .b x
 |i k n=>exact .i k n
 |s x=>exact .s x
 |agg l vs h1 hl _ ih=>exact .agg l vs h1 hl ih
 |tup l vs hl _ ih=>exact .tup l vs hl ih
 |sl0=>exact .sl0
 |sle a cap=>exact .sle a cap
 |sl l z vs bk of cap hc hz h1 hl hrd _ ih=>exact .sl l z vs bk of cap hc hz h1 hl (fun k v hv=>hr _ _ _ (hrd k v hv)) ih
 |fn f=>exact .fn f
 |fn0=>exact .fn0
 |p0=>exact .p0
 |if0=>exact .if0
 |ifc t x v _ ih=>exact .ifc t x v ih
 |pt x o vs bk of h1 hl hrd _ ih=>exact .pt x o vs bk of h1 hl (fun k v hv=>hr _ _ _ (hrd k v hv)) ih
 |fc f a c va vc hla hlc _ _ iha ihc=>exact .fc f a c va vc hla hlc iha ihc
inductive AV where
 |v (x:PV)
 |p (n ver o:Nat)
 |pp (x:PV) (o:Nat)
 |rs (n ver o len z:Nat)
 |fs (l:List PV)
 |sn
 |agg (l:List AV)
 |tup (l:List AV)
 |fn (f:Fn) (a c:List AV)
 |ub
 |mp (n:Nat)
 |u
 deriving Inhabited
def AV.one:AV->Bool
 | .v x=>x.one
 | .agg _=>false
 | .tup _=>false
 | .u=>false
 | _=>true
def AV.nH:AV->Bool
 | .v (.tup _)=>false
 | .v _=>true
 | .agg l=>l.all AV.one
 | .tup _=>false
 | .u=>false
 | _=>true
def AV.cells:AV->List AV
 | .agg l=>l
 | .v (.agg l)=>l.map .v
 |x=>[x]
structure Cx where
 rd:Rd
 al:Nat->Prop
 cur:Nat->Option Nat
 mu:Nat->Nat
 sz:Nat->Nat
 mpn:Nat->Bool
inductive AR (C:Cx):AV->Value->Prop where
 |v {x:PV} {w:Value} (h:PR C.rd x w):AR C (.v x) w
 |p (n ver o b:Nat) (ha:C.al n) (hk:C.mpn n=false) (h: ∀c,C.cur n=some c->ver<=c/\(ver=c->b=C.mu n)):AR C (.p n ver o) (.pointer (some ⟨b,o,none⟩))
 |pp (x:PV) (o:Nat) (vs:List Value) (bk of:Nat) (h1: ∀y∈x.cells,y.one=true) (hl:x.cells.length=vs.length)
   (hr: ∀(k:Nat) (v:Value),vs[k]?=some v->C.rd bk (of+k)=some v)
   (h: ∀(k:Nat) (y:PV) (v:Value),x.cells[k]?=some y->vs[k]?=some v->PR C.rd y v):AR C (.pp x o) (.pointer (some ⟨bk,of+o,none⟩))
 |rs (n ver o len z b o' cap:Nat) (ha:C.al n) (hk:C.mpn n=false) (hc:len<=cap) (ho:cap=0\/o'=o)
   (h: ∀c,C.cur n=some c->ver<=c/\(ver=c->b=C.mu n/\o+cap*z<=C.sz n)):AR C (.rs n ver o len z) (.slice (some ⟨b,o',none⟩) len cap)
 |fs (l:List PV) (a:Option Addr) (h:PR C.rd (.sl l) (.slice a l.length l.length)):AR C (.fs l) (.slice a l.length l.length)
 |sn:AR C .sn (.slice none 0 0)
 |agg (l:List AV) (vs:List Value) (hl:l.length=vs.length) (h: ∀(k:Nat) (x:AV) (v:Value),l[k]?=some x->vs[k]?=some v->AR C x v):AR C (.agg l) (.agg vs.toArray)
 |tup (l:List AV) (vs:List Value) (hl:l.length=vs.length) (h: ∀(k:Nat) (x:AV) (v:Value),l[k]?=some x->vs[k]?=some v->AR C x v):AR C (.tup l) (.tuple vs.toArray)
 |fn (f:Fn) (a c:List AV) (va vc:List Value) (hla:a.length=va.length) (hlc:c.length=vc.length)
   (ha: ∀(k:Nat) (x:AV) (v:Value),a[k]?=some x->va[k]?=some v->AR C x v)
   (hc: ∀(k:Nat) (x:AV) (v:Value),c[k]?=some x->vc[k]?=some v->AR C x v):AR C (.fn f a c) (.func f va.toArray vc.toArray)
 |ub (x:Bool):AR C .ub (.bool x)
 |mp (n b:Nat) (ha:C.al n) (hk:C.mpn n=true) (h: ∀c,C.cur n=some c->b=C.mu n):AR C (.mp n) (.map (some b))
 |u (w:Value):AR C .u w
structure Cx.Le (C D:Cx):Prop where
 rd: ∀b o v,C.rd b o=some v->D.rd b o=some v
 al: ∀n,C.al n->D.al n
 cur: ∀n,C.al n-> ∀d,D.cur n=some d-> ∃c,C.cur n=some c/\c<=d/\(c=d->D.mu n=C.mu n/\D.sz n=C.sz n)
 mpn: ∀n,C.al n->D.mpn n=C.mpn n/\(C.mpn n=true->D.mu n=C.mu n)
theorem Cx.Le.refl (C:Cx):C.Le C:=⟨fun _ _ _ h=>h,fun _ h=>h,fun _ _ d h=>⟨d,h,aB _,fun _=>⟨rfl,rfl⟩⟩,fun _ _=>⟨rfl,fun _=>rfl⟩⟩
theorem Cx.Le.trans {C D E:Cx} (h:C.Le D) (k:D.Le E):C.Le E:=by
 refine⟨fun b o v hv=>k.rd _ _ _ (h.rd _ _ _ hv),fun n hn=>k.al _ (h.al _ hn),fun n hn e he=> ?_,fun n hn=>⟨(k.mpn n (h.al n hn)).1.trans (h.mpn n hn).1,fun ht=>((k.mpn n (h.al n hn)).2 ((h.mpn n hn).1.trans ht)).trans ((h.mpn n hn).2 ht)⟩⟩
 obtain⟨d,hd,hde,hd'⟩:=k.cur n (h.al n hn) e he;obtain⟨c,hc,hcd,hc'⟩:=h.cur n hn d hd;refine⟨c,hc,fV hcd hde,fun heq=> ?_⟩
 have h1:c=d:=by omega
 have h2:d=e:=by omega
 obtain⟨m1,s1⟩:=hc' h1;obtain⟨m2,s2⟩:=hd' h2;exact⟨m2.trans m1,s2.trans s1⟩
theorem AR.mono {C D:Cx} (hle:C.Le D) {x:AV} {w:Value} (h:AR C x w):AR D x w:=by
 induction h with
 |v h=>exact .v (h.mono hle.rd)
 |p n ver o b ha hk h=>
  refine .p n ver o b (hle.al _ ha) ((hle.mpn n ha).1.trans hk) fun d hd=> ?_
  obtain⟨c,hc,hcd,hm⟩:=hle.cur n ha d hd;obtain⟨h1,h2⟩:=h c hc;refine⟨by omega,fun hv=> ?_⟩
  obtain⟨hmu,-⟩:=hm (by omega)
  rw[hmu];exact h2 (by omega)
 |pp x o vs bk of h1 hl hr h=>exact .pp x o vs bk of h1 hl (fun k v hv=>hle.rd _ _ _ (hr k v hv)) (fun k y v hy hv=>(h k y v hy hv).mono hle.rd)
 |rs n ver o len z b o' cap ha hk hc ho h=>
  refine .rs n ver o len z b o' cap (hle.al _ ha) ((hle.mpn n ha).1.trans hk) hc ho fun d hd=> ?_
  obtain⟨c,hc,hcd,hm⟩:=hle.cur n ha d hd;obtain⟨h1,h2⟩:=h c hc;refine⟨by omega,fun hv=> ?_⟩
  obtain⟨hmu,hsz⟩:=hm (by omega)
  rw[hmu,hsz];exact h2 (by omega)
 |fs l a h=>exact .fs l a (h.mono hle.rd)
 |sn=>exact .sn
 |agg l vs hl _ ih=>exact .agg l vs hl ih
 |tup l vs hl _ ih=>exact .tup l vs hl ih
 |fn f a c va vc hla hlc _ _ iha ihc=>exact .fn f a c va vc hla hlc iha ihc
 |ub x=>exact .ub x
 |mp n b ha hk h=>
  refine .mp n b (hle.al _ ha) ((hle.mpn n ha).1.trans hk) fun d hd=> ?_
  obtain⟨c,hc,-,-⟩:=hle.cur n ha d hd;rw[(hle.mpn n ha).2 hk];exact h c hc
 |u w=>exact .u w
def PV.nz:PV->AV
 | .b x=> .v (.b x)
 | .i k n=> .v (.i k n)
 | .s x=> .v (.s x)
 | .agg l=> .v (.agg l)
 | .tup l=> .v (.tup l)
 | .sl l=> .v (.sl l)
 | .fn f=> .v (.fn f)
 | .fn0=> .v .fn0
 | .p0=> .v .p0
 | .if0=> .v .if0
 | .ifc t v=> .v (.ifc t v)
 | .pt x o=> .pp x o
 | .fc f a c=> .fn (.func f) (a.map .v) (c.map .v)
def AV.nz:AV->AV
 | .v x=>x.nz
 | .p n ver o=> .p n ver o
 | .pp x o=> .pp x o
 | .rs n ver o len z=> .rs n ver o len z
 | .fs l=> .fs l
 | .sn=> .sn
 | .agg l=> .agg l
 | .tup l=> .tup l
 | .fn f a c=> .fn f a c
 | .ub=> .ub
 | .mp n=> .mp n
 | .u=> .u
theorem AR.nz {C:Cx} {x:AV} {v:Value} (h:AR C x v):AR C x.nz v:=by
 cases h with
 |v h=>
  cases h with
  |pt x o vs bk of h1 hl hr h=>exact .pp x o vs bk of h1 hl hr h
  |fc f a c va vc hla hlc ha hc=>
   refine .fn _ _ _ va vc (by simpa using hla) (by simpa using hlc) (fun k y w hy hw=> ?_) (fun k y w hy hw=> ?_)
   ·simp only[gY,dM]at hy;obtain⟨z,hz,rfl⟩:=hy;exact .v (ha k z w hz hw)
   ·simp only[gY,dM]at hy;obtain⟨z,hz,rfl⟩:=hy;exact .v (hc k z w hz hw)
  |b x=>exact .v (.b x)
  |i k n=>exact .v (.i k n)
  |s x=>exact .v (.s x)
  |agg l vs h1 hl h=>exact .v (.agg l vs h1 hl h)
  |tup l vs hl h=>exact .v (.tup l vs hl h)
  |sl0=>exact .v .sl0
  |sle a cap=>exact .v (.sle a cap)
  |sl l z vs bk of cap hc hz h1 hl hr h=>exact .v (.sl l z vs bk of cap hc hz h1 hl hr h)
  |fn f=>exact .v (.fn f)
  |fn0=>exact .v .fn0
  |p0=>exact .v .p0
  |if0=>exact .v .if0
  |ifc t x v h=>exact .v (.ifc t x v h)
 |p n ver o b ha hk h=>exact .p n ver o b ha hk h
 |pp x o vs bk of h1 hl hr h=>exact .pp x o vs bk of h1 hl hr h
 |rs n ver o len z b o' cap ha hk hc ho h=>exact .rs n ver o len z b o' cap ha hk hc ho h
 |fs l a h=>exact .fs l a h
 |sn=>exact .sn
 |agg l vs hl h=>exact .agg l vs hl h
 |tup l vs hl h=>exact .tup l vs hl h
 |fn f a c va vc hla hlc ha hc=>exact .fn f a c va vc hla hlc ha hc
 |ub x=>exact .ub x
 |mp n b ha hk h=>exact .mp n b ha hk h
 |u=>exact .u _
structure aC where
 ver:Nat
 cells:List AV
 gr:Bool
 el:Option TypeId
inductive MR (rd:Rd):List AV->List MapEntry->Prop where
 |nil:MR rd [] []
 |cons (k v:PV) (l:List AV) (e:MapEntry) (es:List MapEntry) (h1:PR rd k e.key) (h2:PR rd v e.val) (h:MR rd l es):MR rd (.v k:: .v v::l) (e::es)
theorem MR.mono {rd rd':Rd} (hr: ∀b o v,rd b o=some v->rd' b o=some v) {l:List AV} {es:List MapEntry} (h:MR rd l es):MR rd' l es:=by
 induction h with
 |nil=>exact .nil
 |cons k v l e es h1 h2 _ ih=>exact .cons k v l e es (h1.mono hr) (h2.mono hr) ih
structure HR (C:Cx) (hf:Nat->Option aC) (wr:Nat->Prop) (w:World):Prop where
 rdw: ∀b o v,C.rd b o=some v->w.cell? ⟨b,o,none⟩=some v
 live: ∀n ob,hf n=some ob->C.al n/\C.cur n=some ob.ver
 dead: ∀n,hf n=none->C.cur n=none
 sep: ∀n ob,hf n=some ob-> ∀k,C.rd (C.mu n) k=none
 inj: ∀n m ob oc,hf n=some ob->hf m=some oc->C.mu n=C.mu m->n=m
 wr: ∀n ob,hf n=some ob->wr (C.mu n)
 obj: ∀n ob,hf n=some ob->C.mpn n=false-> ∃cs el,w.heap[C.mu n]?=some (.cells cs el (0,0))/\cs.size=C.sz n/\ob.cells.length<=cs.size/\
  (ob.gr=false->ob.cells.length=cs.size)/\ ∀(k:Nat) (x:AV) (v:Value),ob.cells[k]?=some x->cs[k]?=some v->AR C x v
 typ: ∀n ob,hf n=some ob->C.mpn n=false-> ∀t,ob.el=some t-> ∃cs,w.heap[C.mu n]?=some (.cells cs t (0,0))
 mp: ∀n ob,hf n=some ob->C.mpn n=true-> ∃es clk,w.heap[C.mu n]?=some (.map es clk)/\MR C.rd ob.cells es.toList
inductive SX where
 |t (n:Nat)
 |c (v:AV)
def SX.ev (tf:Nat->AV):SX->AV
 | .t n=>tf n
 | .c v=>v
inductive SO where
 |mov (x:SX)
 |pick (c a b:SX)
 |alloc (t:TypeId) (z:List AV)
 |box (x:SX)
 |build (z:List AV) (ps:List (Nat×Nat×SX))
 |bsl (w:Bool) (z:Nat) (ps:List SX)
 |ld (ag:Bool) (z:Nat) (x:SX)
 |st (z:Nat) (a x:SX)
 |bin (op:BinOp) (x y:SX)
 |beq (ng:Bool) (x y:SX)
 |ceq (ng:Bool) (ks:List Nat) (x y:SX)
 |un (op:UnOp) (x:SX)
 |cvi (k:IntKind) (x:SX)
 |cvs (x:SX)
 |b2s (x:SX)
 |s2b (x:SX)
 |mks (z:List AV) (by_:Nat) (l c:SX)
 |slS (x:SX) (lo hi:Option SX)
 |slL (z:Nat) (x:SX) (lo hi mx:Option SX)
 |slA (n z:Nat) (x:SX) (lo hi mx:Option SX)
 |fad (o:Nat) (x:SX)
 |fld (ag:Bool) (o z:Nat) (x:SX)
 |ixs (z:Nat) (x i:SX)
 |ixa (n z:Nat) (x i:SX)
 |ixS (x i:SX)
 |ixV (ag:Bool) (n z:Nat) (x i:SX)
 |ext (x:SX) (k:Nat)
 |len (x:SX)
 |lenS (x:SX)
 |lenA (n:Nat)
 |mm (mx:Bool) (x y:SX)
 |app (e:TypeId) (z by_:Nat) (x y:SX)
 |cpy (z:Nat) (x y:SX)
 |call (f:SX) (args:List SX)
 |mkf (f:Fn) (a c:List SX)
 |nck (x:SX)
 |mki (t:TypeId) (x:SX)
 |peq (ng:Bool) (x y:SX)
 |cvp (ok:TypeId->Nat->Nat->Bool) (x:SX)
 |sld (x:SX)
 |ust (e:TypeId) (x y:SX)
 |clr (z:List AV) (x:SX)
 |snl (ng:Bool) (x:SX)
 |mkm
 |mget (c st:Bool) (z:PV) (x k:SX)
 |mset (st:Bool) (x k v:SX)
 |stop
structure jV where
 d:Option Nat
 o:SO
 g:Option (Nat×Bool)
inductive SC where
 |skip
 |reg (bf:Option (List Nat)) (ops:List jV)
 |seq (a b:SC)
 |cond (x:SX) (a b:SC)
 |blk (id:Nat) (a:SC)
 |loop (a:SC)
 |rng (x:SX) (ps:List Nat) (a b:SC)
 |exit (id:Nat)
 |ret
 |stop
def aU {α β:Type} (g:α->Option β):List α->Option (List β)
 |[]=>some []
 |x::r=>match g x,aU g r with
  |some y,some ys=>some (y::ys)
  | _,_=>none
def chunk (z:Nat):Nat->List PV->List PV
 |0,_=>[]
 |n+1,l=>(if z=1 then(l.headD .fn0)else .agg (l.take z))::chunk z n (l.drop z)
def AV.S1:AV->Option PV
 | .v x=>some x
 | .fs l=>some (.sl l)
 | .sn=>some (.sl [])
 | .pp x o=>some (.pt x o)
 | _=>none
def pU:Fn->Option (List PV)->Option (List PV)->Option PV
 |f,some [],some []=>some (.fn f)
 | .func f,some a,some c=>some (.fc f a c)
 | _,_,_=>none
def AV.DR:AV->Option PV
 | .v x=>some x
 | .fs l=>some (.sl l)
 | .sn=>some (.sl [])
 | .pp x o=>some (.pt x o)
 | .fn f a c=>pU f (aU AV.S1 a) (aU AV.S1 c)
 | _=>none
def jv (l:List AV):AV:=
 match aU (fun x=>match x with| .v y=>if y.one then some y else none| _=>none) l with
 |some ys=> .v (.agg ys)
 |none=> .agg l
def view (hf:Nat->Option aC):Nat->AV->Option PV
 |0,_=>none
 | _+1, .v x=>some x
 | _+1, .fs l=>some (.sl l)
 | _+1, .sn=>some (.sl [])
 | _+1, .pp x o=>some (.pt x o)
 |f+1, .fn g a c=>pU g (aU (view hf f) a) (aU (view hf f) c)
 |f+1, .p n ver o=>match hf n with
  |some ob=>if ob.ver=ver/\ob.cells.all AV.one then(aU (view hf f) ob.cells).map fun cs=> .pt (.agg cs) o else none
  |none=>none
 |f+1, .agg l=>if l.all AV.one then(aU (view hf f) l).map .agg else none
 |f+1, .tup l=>(aU (view hf f) l).map .tup
 |f+1, .rs n ver o len z=>match hf n with
  |some ob=>if ob.ver=ver/\o+len*z<=ob.cells.length/\((ob.cells.drop o).take (len*z)).all AV.one then
    (aU (view hf f) ((ob.cells.drop o).take (len*z))).map fun cs=> .sl (chunk z len cs)else none
  |none=>none
 | _+1,_=>none
def aX (hf:Nat->Option aC):Nat->AV->List Nat
 |0,_=>[]
 |f+1, .fn _ a c=>a.flatMap (aX hf f)++c.flatMap (aX hf f)
 |f+1, .p n _ _=>n::match hf n with
  |some ob=>ob.cells.flatMap (aX hf f)
  |none=>[]
 |f+1, .agg l=>l.flatMap (aX hf f)
 |f+1, .tup l=>l.flatMap (aX hf f)
 |f+1, .rs n _ o len z=>n::match hf n with
  |some ob=>((ob.cells.drop o).take (len*z)).flatMap (aX hf f)
  |none=>[]
 | _+1,_=>[]
def PV.flat:PV->Bool
 | .agg l=>flatL l
 | .tup l=>flatL l
 | .sl _=>false
 | .ifc _ v=>v.flat
 | .pt _ _=>false
 | .fc _ _ _=>false
 | _=>true
where flatL:List PV->Bool
 |[]=>true
 |x::r=>x.flat&&flatL r
structure AO where
 v:AV
 pre:Prop
 rs:List Nat
 up:List (Nat×Option aC)
def cM (v:AV):Option AO:=some ⟨v,True,[],[]⟩
def dm (v:AV) (p:Prop):Option AO:=some ⟨v,p,[],[]⟩
def my (k:IntKind) (a b:Int):Int:=k.wrap (BitVec.ofInt k.bits a&&&BitVec.ofInt k.bits b).toNat
def Gu (k:IntKind) (a b:Int):Int:=k.wrap (BitVec.ofInt k.bits a|||BitVec.ofInt k.bits b).toNat
def EJ (k:IntKind) (a b:Int):Int:=k.wrap (BitVec.ofInt k.bits a^^^BitVec.ofInt k.bits b).toNat
def Ic (k:IntKind) (a b:Int):Int:=k.wrap (BitVec.ofInt k.bits a&&& ~~~BitVec.ofInt k.bits b).toNat
def QO (op:BinOp) (k:IntKind) (a:Int) (k':IntKind) (b:Int):Option AO:=
 match op with
 | .shl=>dm (.v (.i k (k.wrap (a*2^min b.toNat k.bits)))) (0<=b)
 | .shr=>dm (.v (.i k (a.fdiv (2^min b.toNat k.bits)))) (0<=b)
 | .add=>dm (.v (.i k (k.wrap (a+b)))) (k=k')
 | .sub=>dm (.v (.i k (k.wrap (a-b)))) (k=k')
 | .mul=>dm (.v (.i k (k.wrap (a*b)))) (k=k')
 | .quo=>dm (.v (.i k (k.wrap (a.tdiv b)))) (k=k'/\b≠0)
 | .rem=>dm (.v (.i k (a.tmod b))) (k=k'/\b≠0)
 | .and=>dm (.v (.i k (my k a b))) (k=k')
 | .or=>dm (.v (.i k (Gu k a b))) (k=k')
 | .xor=>dm (.v (.i k (EJ k a b))) (k=k')
 | .andNot=>dm (.v (.i k (Ic k a b))) (k=k')
 | .eql=>dm (.v (.b (a==b))) (k=k')
 | .neq=>dm (.v (.b (a !=b))) (k=k')
 | .lss=>dm (.v (.b (decide (a<b)))) (k=k')
 | .leq=>dm (.v (.b (decide (a<=b)))) (k=k')
 | .gtr=>dm (.v (.b (decide (a>b)))) (k=k')
 | .geq=>dm (.v (.b (decide (a>=b)))) (k=k')
def RT (op:BinOp) (a b:Bytes):Option AO:=
 match op with
 | .add=>dm (.v (.s (a++b))) (a.length+b.length<=9223372036854775807)
 | .eql=>cM (.v (.b (a==b)))
 | .neq=>cM (.v (.b (!(a==b))))
 | .lss=>cM (.v (.b (Op.bytesLess a b)))
 | .leq=>cM (.v (.b (Op.bytesLess a b||a==b)))
 | .gtr=>cM (.v (.b (!(Op.bytesLess a b||a==b))))
 | .geq=>cM (.v (.b (!(Op.bytesLess a b))))
 | _=>none
def PV.byte:PV->UInt8
 | .i _ n=>UInt8.ofNat n.toNat
 | _=>0
def PV.isByte:PV->Prop
 | .i .u8 _=>True
 | _=>False
def AV.byte:AV->UInt8
 | .v x=>x.byte
 | _=>0
def AV.isByte:AV->Prop
 | .v x=>x.isByte
 | _=>False
def u8 (c:UInt8):PV:= .i .u8 c.toNat
def lenOf:AV->Option Nat
 | .v (.sl l)=>some l.length
 | .fs l=>some l.length
 | .sn=>some 0
 | .rs _ _ _ len _=>some len
 | _=>none
def bounds (len:Nat) (lo hi:Option AV):Option (Nat×Nat×Prop):=
 match lo,hi with
 |none,none=>some (0,len,True)
 |some (.v (.i _ l)),none=>some (l.toNat,len,0<=l/\l<=len)
 |none,some (.v (.i _ h))=>some (0,h.toNat,0<=h/\h<=len)
 |some (.v (.i _ l)),some (.v (.i _ h))=>some (l.toNat,h.toNat,0<=l/\l<=h/\h<=len)
 | _,_=>none
def qc (hf:Nat->Option aC) (z:Nat):AV->Option (List AV×Nat×Prop×List Nat)
 | .v (.s x)=>some (x.map fun c=> .v (u8 c),x.length,z=1,[])
 | .v (.sl l)=>some ((l.flatMap PV.cells).map .v,l.length,(∀x∈l,x.cells.length=z),[])
 | .fs l=>some ((l.flatMap PV.cells).map .v,l.length,(∀x∈l,x.cells.length=z),[])
 | .sn=>some ([],0,True,[])
 | .rs n ver o len z'=>match hf n with
  |some ob=>some ((ob.cells.drop o).take (len*z),len,ob.ver=ver/\z'=z/\o+len*z<=ob.cells.length,[n])
  |none=>none
 | _=>none
def sC (cells:List AV):List (Nat×Nat×AV)->Option (List AV×Prop)
 |[]=>some (cells,True)
 |(o,z,v)::r=>
  match sC (cells.take o++v.cells++cells.drop (o+z)) r with
  |some (cs,p)=>some (cs,(v.nH=true/\v.cells.length=z/\o+z<=cells.length)/\p)
  |none=>none
def AV.XT (l:List AV):Option (List PV):=
 aU (fun x=>match x with
  | .agg l=>if l.all AV.one then(aU AV.DR l).map .agg else none
  |x=>if x.nH then x.DR else none) l
def WZ (hf:Nat->Option aC) (ag:Bool) (z:Nat) (x:AV):Option AO:=
 match x.nz with
 | .p n ver o=>match hf n with
  |some ob=>some ⟨if ag then jv ((ob.cells.drop o).take z)else ob.cells.getD o .u,ob.ver=ver/\o+z<=ob.cells.length,[n],[]⟩
  |none=>none
 | .pp y o=>some ⟨if ag then .v (.agg ((y.cells.drop o).take z))else .v (y.cells.getD o .fn0),o+z<=y.cells.length,[],[]⟩
 | _=>none
def PA (op:BinOp) (x y:AV):Option AO:=
 match x,y with
 | .v (.i k a), .v (.i k' b)=>QO op k a k' b
 | .v (.s a), .v (.s b)=>RT op a b
 | _,_=>none
def Y6 (op:UnOp) (x:AV):Option AO:=
 match op,x with
 | .not, .v (.b a)=>cM (.v (.b (!a)))
 | .neg, .v (.i k a)=>cM (.v (.i k (k.wrap (0-a))))
 | .xor, .v (.i k a)=>cM (.v (.i k (k.wrap (BitVec.ofInt k.bits (if k.signed then-1 else k.max)^^^BitVec.ofInt k.bits a).toNat)))
 | _,_=>none
def PD (o:Nat) (x:AV):Option AO:=
 match x.nz with
 | .p n ver q=>cM (.p n ver (q+o))
 | .pp y q=>cM (.pp y (q+o))
 | _=>none
def PF (z:Nat) (x i:AV):Option AO:=
 match x,i with
 | .v (.sl l), .v (.i _ a)=>dm (.pp (l.getD a.toNat .fn0) 0) (0<=a/\a<l.length/\(l.getD a.toNat .fn0).cells.length=z)
 | .fs l, .v (.i _ a)=>dm (.pp (l.getD a.toNat .fn0) 0) (0<=a/\a<l.length/\(l.getD a.toNat .fn0).cells.length=z)
 | .rs n ver o len z', .v (.i _ a)=>dm (.p n ver (o+a.toNat*z)) (0<=a/\a<len/\z'=z)
 | _,_=>none
def PE (n z:Nat) (x i:AV):Option AO:=
 match x.nz,i with
 | .p m ver o, .v (.i _ a)=>dm (.p m ver (o+a.toNat*z)) (0<=a/\a<n)
 | .pp y o, .v (.i _ a)=>dm (.pp y (o+a.toNat*z)) (0<=a/\a<n)
 | _,_=>none
def PB (k:Nat) (x:AV):Option AO:=
 match x with
 | .tup l=>dm (l.getD k .u) (k<l.length)
 | .v (.tup l)=>dm (.v (l.getD k .fn0)) (k<l.length)
 | _=>none
def PG (x:AV):Option AO:=
 match x.nz with
 | .p n ver o=>cM (.p n ver o)
 | .pp y o=>cM (.pp y o)
 | .v (.fn (.func f))=>cM (.v (.fn (.func f)))
 | .fn (.func f) a c=>cM (.fn (.func f) a c)
 | _=>none
def LL (hf:Nat->Option aC) (ng:Bool) (x y:AV):Option AO:=
 match x.nz,y with
 | .v .p0, .v .p0=>cM (.v (.b (!ng)))
 | .p _ _ _, .v .p0=>cM (.v (.b ng))
 | .v .p0, .p _ _ _=>cM (.v (.b ng))
 | .pp _ _, .v .p0=>cM (.v (.b ng))
 | .p n ver o, .p n' ver' o'=>if n=n'/\ver=ver'/\o=o' then(match hf n with
  |some ob=>some ⟨.v (.b (!ng)),ob.ver=ver,[n],[]⟩
  |none=>none)else none
 | _,_=>none
def LK (hf:Nat->Option aC) (ok:TypeId->Nat->Nat->Bool) (x:AV):Option AO:=
 match x with
 | .p n ver o=>match hf n with
  |some ob=>match ob.el with
   |some T=>some ⟨.p n ver o,ob.ver=ver/\o<ob.cells.length/\ob.gr=false/\ok T ob.cells.length o=true,[n],[]⟩
   |none=>none
  |none=>none
 | _=>none
def PH (x:AV):Option AO:=
 match x with
 | .sn=>cM (.v .p0)
 | .rs n ver o len _=>dm (.p n ver o) (0<len)
 | _=>none
def LM (hf:Nat->Option aC) (e:TypeId) (x y:AV):Option AO:=
 match x,y with
 | .v .p0, .v (.i .i64 0)=>cM (.v (.s []))
 | .p n ver o, .v (.i .i64 len)=>match hf n with
  |some ob=>some ⟨.v (.s ((ob.cells.take len.toNat).map AV.byte)),ob.ver=ver/\o=0/\ob.el=some e/\0<len/\len.toNat<=ob.cells.length/\len<=9223372036854775807/\ ∀y∈ob.cells.take len.toNat,y= .v (u8 y.byte),[n],[(n,none)]⟩
  |none=>none
 | _,_=>none
def AV.isAgg:AV->Prop
 | .agg _=>True
 | .v (.agg _)=>True
 | _=>False
def uc:List Nat->List PV->List PV->Option Bool
 |[],[],[]=>some true
 |0::ks, .b a::l, .b b::m=>(uc ks l m).map (a==b&& ·)
 |1::ks, .s a::l, .s b::m=>(uc ks l m).map (a==b&& ·)
 | _,_,_=>none
def pE:Bool->PV->PV->Option Bool
 |true, .s a, .s b=>some (a==b)
 |false, .i k a, .i k' b=>if k=k' then some (a==b)else none
 | _,_,_=>none
def U7 (st:Bool) (key:PV):List AV->Prop
 | .v a:: .v _::r=>(pE st key a).isSome=true/\U7 st key r
 |[]=>(pE st key key).isSome=true
 | _=>False
def uI (st:Bool) (z key:PV):List AV->PV
 | .v a:: .v b::r=>if pE st key a=some true then b else uI st z key r
 | _=>z
def yG (st:Bool) (key:PV):List AV->Bool
 | .v a:: .v _::r=>if pE st key a=some true then true else yG st key r
 | _=>false
def Ah (st:Bool) (key val:PV):List AV->List AV
 | .v a:: .v b::r=>if pE st key a=some true then .v key:: .v val::r else .v a:: .v b::Ah st key val r
 | _=>[.v key, .v val]
def fe (nm:Nat) (o:SO) (tf:Nat->AV) (hf:Nat->Option aC):Option AO:=
 match o with
 | .mov x=>cM (x.ev tf)
 | .pick c a b=>match c.ev tf with
  | .v (.b true)=>cM (a.ev tf)
  | .v (.b false)=>cM (b.ev tf)
  | _=>none
 | .alloc t z=>some ⟨.p nm 0 0,True,[],[(nm,some ⟨0,z,false,some t⟩)]⟩
 | .box x=>some ⟨.p nm 0 0,(x.ev tf).nH=true,[],[(nm,some ⟨0,(x.ev tf).cells,false,none⟩)]⟩
 | .build z ps=>match sC z (ps.map fun(a,b,x)=>(a,b,x.ev tf))with
  |some (cs,p)=>some ⟨jv cs,p,[],[]⟩
  |none=>none
 | .bsl w z ps=>match w,AV.XT (ps.map (SX.ev tf))with
  |false,some xs=>some ⟨.fs xs,∀x∈xs,x.cells.length=z,[],[]⟩
  | _,_=>some ⟨.rs nm 0 0 ps.length z,(∀x∈ps.map (SX.ev tf),x.nH=true/\x.cells.length=z),[],[(nm,some ⟨0,(ps.map (SX.ev tf)).flatMap AV.cells,false,none⟩)]⟩
 | .ld ag z x=>WZ hf ag z (x.ev tf)
 | .st z a x=>match a.ev tf with
  | .p n ver o=>match hf n with
   |some ob=>some ⟨.v (.tup []),ob.ver=ver/\o+z<=ob.cells.length/\(x.ev tf).nH=true/\(x.ev tf).cells.length=z,[n],
     [(n,some ⟨ob.ver,ob.cells.take o++(x.ev tf).cells++ob.cells.drop (o+z),ob.gr,ob.el⟩)]⟩
   |none=>none
  | _=>none
 | .bin op x y=>PA op (x.ev tf) (y.ev tf)
 | .beq ng x y=>match x.ev tf,y.ev tf with
  | .v (.b a), .v (.b b)=>cM (.v (.b (if ng then !(a==b)else a==b)))
  | _,_=>none
 | .ceq ng ks x y=>match x.ev tf,y.ev tf with
  | .v (.agg l), .v (.agg m)=>match uc ks l m with
   |some r=>cM (.v (.b (if ng then !r else r)))
   |none=>none
  | _,_=>none
 | .un op x=>Y6 op (x.ev tf)
 | .cvi k x=>match x.ev tf with
  | .v (.i _ a)=>cM (.v (.i k (k.wrap a)))
  | _=>none
 | .cvs x=>match x.ev tf with
  | .v (.s l)=>cM (.v (.s l))
  | _=>none
 | .b2s x=>match x.ev tf with
  | .v (.sl l)=>dm (.v (.s (l.map PV.byte))) (∀y∈l,y.isByte)
  | .fs l=>dm (.v (.s (l.map PV.byte))) (∀y∈l,y.isByte)
  | .sn=>cM (.v (.s []))
  | .rs n ver o len z=>match hf n with
   |some ob=>some ⟨.v (.s (((ob.cells.drop o).take len).map AV.byte)),ob.ver=ver/\z=1/\o+len<=ob.cells.length/\ ∀y∈(ob.cells.drop o).take len,y.isByte,[n],[]⟩
   |none=>none
  | _=>none
 | .s2b x=>match x.ev tf with
  | .v (.s l)=>cM (.v (.sl (l.map u8)))
  | _=>none
 | .mks z by_ l c=>match l.ev tf,c.ev tf with
  | .v (.i _ l), .v (.i _ c)=>some ⟨.rs nm 0 0 l.toNat z.length,0<=l/\l<=c/\by_*c<=140737488355328/\c<=140737488355328,[],[(nm,some ⟨0,(List.replicate c.toNat z).flatten,false,none⟩)]⟩
  | _,_=>none
 | .slS x lo hi=>match x.ev tf with
  | .v (.s a)=>match bounds a.length (lo.map (SX.ev tf)) (hi.map (SX.ev tf))with
   |some (l,h,p)=>dm (.v (.s ((a.take h).drop l))) p
   |none=>none
  | _=>none
 | .slL z x lo hi mx=>match x.ev tf,mx with
  | .v (.sl a),none=>match bounds a.length (lo.map (SX.ev tf)) (hi.map (SX.ev tf))with
   |some (l,h,p)=>dm (.v (.sl ((a.take h).drop l))) (p/\ ∀x∈a,x.cells.length=z)
   |none=>none
  | .fs a,none=>match bounds a.length (lo.map (SX.ev tf)) (hi.map (SX.ev tf))with
   |some (l,h,p)=>dm (.v (.sl ((a.take h).drop l))) (p/\ ∀x∈a,x.cells.length=z)
   |none=>none
  | .rs n ver o len z',none=>match bounds len (lo.map (SX.ev tf)) (hi.map (SX.ev tf))with
   |some (l,h,p)=>dm (.rs n ver (o+l*z) (h-l) z) (p/\z'=z)
   |none=>none
  | .v (.sl a),some mx=>match bounds a.length (lo.map (SX.ev tf)) (hi.map (SX.ev tf)),hi.map (SX.ev tf),mx.ev tf with
   |some (l,h,p),some (.v (.i _ hh)), .v (.i _ m)=>dm (.fs ((a.take h).drop l)) (p/\m=hh/\ ∀x∈a,x.cells.length=z)
   | _,_,_=>none
  | .fs a,some mx=>match bounds a.length (lo.map (SX.ev tf)) (hi.map (SX.ev tf)),hi.map (SX.ev tf),mx.ev tf with
   |some (l,h,p),some (.v (.i _ hh)), .v (.i _ m)=>dm (.fs ((a.take h).drop l)) (p/\m=hh/\ ∀x∈a,x.cells.length=z)
   | _,_,_=>none
  | .sn,some mx=>match bounds 0 (lo.map (SX.ev tf)) (hi.map (SX.ev tf)),hi.map (SX.ev tf),mx.ev tf with
   |some (_,_,p),some (.v (.i _ hh)), .v (.i _ m)=>dm (.fs []) (p/\m=hh)
   | _,_,_=>none
  | .rs n ver o len z',some mx=>match bounds len (lo.map (SX.ev tf)) (hi.map (SX.ev tf)),hi.map (SX.ev tf),mx.ev tf with
   |some (l,h,p),some (.v (.i _ hh)), .v (.i _ m)=>dm (.rs n ver (o+l*z) (h-l) z) (p/\m=hh/\z'=z)
   | _,_,_=>none
  | _,_=>none
 | .slA n z x lo hi mx=>match x.ev tf,mx with
  | .p m ver o,none=>match hf m,bounds n (lo.map (SX.ev tf)) (hi.map (SX.ev tf))with
   |some ob,some (l,h,p)=>some ⟨.rs m ver (o+l*z) (h-l) z,p/\ob.ver=ver/\o+n*z<=ob.cells.length,[m],[]⟩
   | _,_=>none
  | _,_=>none
 | .fad o x=>PD o (x.ev tf)
 | .fld ag o z x=>dm (if ag then jv (((x.ev tf).cells.drop o).take z)else(x.ev tf).cells.getD o .u) ((x.ev tf).isAgg/\o+z<=(x.ev tf).cells.length)
 | .ixs z x i=>PF z (x.ev tf) (i.ev tf)
 | .ixa n z x i=>PE n z (x.ev tf) (i.ev tf)
 | .ixS x i=>match x.ev tf,i.ev tf with
  | .v (.s l), .v (.i _ a)=>dm (.v (u8 (l.getD a.toNat 0))) (0<=a/\a<l.length)
  | _,_=>none
 | .ixV ag n z x i=>match i.ev tf with
  | .v (.i _ a)=>dm (if ag then jv (((x.ev tf).cells.drop (a.toNat*z)).take z)else(x.ev tf).cells.getD (a.toNat*z) .u) ((x.ev tf).isAgg/\0<=a/\a<n/\a.toNat*z+z<=(x.ev tf).cells.length)
  | _=>none
 | .ext x k=>PB k (x.ev tf)
 | .len x=>match lenOf (x.ev tf)with
  |some n=>cM (.v (.i .i64 n))
  |none=>none
 | .lenS x=>match x.ev tf with
  | .v (.s l)=>cM (.v (.i .i64 l.length))
  | _=>none
 | .lenA n=>cM (.v (.i .i64 n))
 | .mm mx x y=>match x.ev tf,y.ev tf with
  | .v (.i k a), .v (.i k' b)=>dm (.v (.i k (if mx then(if b>a then b else a)else(if b<a then b else a)))) (k=k')
  | _,_=>none
 | .app e z by_ x y=>match qc hf z (y.ev tf)with
  |some (ys,k,p,r)=>
   match x.ev tf with
   | .sn=>if k=0 then some ⟨.sn,p,r,[]⟩else some ⟨.rs nm 0 0 k z,p/\(∀y∈ys,y.one=true)/\k*by_<=140737488355328/\k<=140737488355328,r,[(nm,some ⟨0,ys,true,some e⟩)]⟩
   | .fs l=>if k=0 then some ⟨.fs l,p,r,[]⟩else some ⟨.rs nm 0 0 (l.length+k) z,p/\(∀y∈ys,y.one=true)/\(∀x∈l,x.cells.length=z)/\(l.length+k)*by_<=140737488355328/\l.length+k<=140737488355328,r,[(nm,some ⟨0,(l.flatMap PV.cells).map .v++ys,true,some e⟩)]⟩
   | .rs n ver o len z'=>match hf n with
    |some ob=>some ⟨.rs n (ver+1) 0 (len+k) z,p/\(∀y∈ys,y.one=true)/\ob.ver=ver/\o=0/\z'=z/\len*z<=ob.cells.length/\(len+k)*by_<=140737488355328/\len+k<=140737488355328,
      n::r,[(n,some ⟨ver+1,ob.cells.take (len*z)++ys,true,if ob.el=some e then some e else none⟩)]⟩
    |none=>none
   | .v (.sl l)=>if k=0 then some ⟨.v (.sl l),p,r,[]⟩else none
   | _=>none
  |none=>none
 | .cpy z x y=>match qc hf z (y.ev tf),x.ev tf with
  |some (ys,k,p,r), .rs n ver o len z'=>match hf n with
   |some ob=>some ⟨.v (.i .i64 (min k len:Nat)),p/\(∀y∈ys,y.one=true)/\ob.ver=ver/\z'=z/\o+len*z<=ob.cells.length,n::r,
     [(n,some ⟨ob.ver,ob.cells.take o++ys.take (min k len*z)++ob.cells.drop (o+min k len*z),ob.gr,ob.el⟩)]⟩
   |none=>none
  | _,_=>none
 | .mkf f a c=>cM (match a,c with
  |[],[]=> .v (.fn f)
  | _,_=> .fn f (a.map (SX.ev tf)) (c.map (SX.ev tf)))
 | .nck x=>PG (x.ev tf)
 | .mki t x=>match x.ev tf with
  | .v y=>cM (.v (.ifc t y))
  | _=>none
 | .peq ng x y=>LL hf ng (x.ev tf) (y.ev tf)
 | .cvp ok x=>LK hf ok (x.ev tf)
 | .sld x=>PH (x.ev tf)
 | .ust e x y=>LM hf e (x.ev tf) (y.ev tf)
 | .clr z x=>match x.ev tf with
  | .rs n ver o len z'=>match hf n with
   |some ob=>some ⟨.v (.tup []),ob.ver=ver/\z'=z.length/\o+len*z'<=ob.cells.length,[n],
     [(n,some ⟨ob.ver,ob.cells.take o++(List.replicate len z).flatten++ob.cells.drop (o+len*z'),ob.gr,ob.el⟩)]⟩
   |none=>none
  | _=>none
 | .snl ng x=>match x.ev tf with
  | .v (.sl [])=>cM .ub
  | .v (.sl (_:: _))=>cM (.v (.b ng))
  | .sn=>cM (.v (.b (!ng)))
  | .fs []=>cM .ub
  | .fs (_:: _)=>cM (.v (.b ng))
  | .rs _ _ _ _ _=>cM (.v (.b ng))
  | _=>none
 | .mkm=>some ⟨.mp nm,True,[],[(nm,some ⟨0,[],false,none⟩)]⟩
 | .mget c st z x k=>match x.ev tf,k.ev tf with
  | .mp n, .v key=>match hf n with
   |some ob=>some ⟨if c then .tup [.v (uI st z key ob.cells), .v (.b (yG st key ob.cells))]else .v (uI st z key ob.cells),U7 st key ob.cells,[n],[]⟩
   |none=>none
  | _,_=>none
 | .mset st x k v=>match x.ev tf,k.ev tf,v.ev tf with
  | .mp n, .v key, .v val=>match hf n with
   |some ob=>some ⟨.v (.tup []),U7 st key ob.cells,[n],[(n,some ⟨ob.ver,Ah st key val ob.cells,ob.gr,ob.el⟩)]⟩
   |none=>none
  | _,_,_=>none
 | .stop=>none
 | .call _ _=>none
