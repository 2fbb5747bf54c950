/-
  THE ABSTRACT OPERATIONS ARE RIGHT, FIFTH PART: indexes, fields, lengths, conversions. Own work; generic over the program.
-/
import Derived.Test.YtjigfdhjmfcbpaaDomI
set_option linter.all false
namespace Go.Dom
open Go.RowKit

section
variable {P : Program} {C : Cx} {hf : Nat → Option AObj} {wr : Nat → Prop} {base nm : Nat} {w : World} {tf : Nat → AV}

theorem run_fieldAt {s : TypeId} {fs : Array Field} (hs : P.underlying s = some (.struct fs)) {f : Nat} {fl : Field} (hfl : fs[f]? = some fl) {z : Nat} (hz : sizeT P fl.type = some z) (h0 : z ≠ 0) (b q : Nat) :
    (Instr.fieldAt s (.pointer (some ⟨b, q, none⟩)) f).run P w = .ok (.pointer (some ⟨b, q + fl.offset, none⟩)) w := by
  simp only [Instr.fieldAt, Sem.run_bind, run_underlying hs, Result.andThen, hfl, Instr.sureAddr, Sem.run_pure, fieldPlace, sizeT_run hz, h0, if_false, add_none]

theorem ok_fad (h : HR C hf wr w) {s : TypeId} {fs : Array Field} (hs : P.underlying s = some (.struct fs)) {f : Nat} {fl : Field} (hfl : fs[f]? = some fl) {z : Nat} (hz : sizeT P fl.type = some z) (h0 : z ≠ 0)
    {vx : AV} {x : Value} (hx : AR C vx x) {ao : AO}
    (ha : aFad fl.offset vx = some ao) : OpOk P C hf wr base nm (vS (Instr.fieldAt s x f)) w ao.v ao.up := by
  unfold aFad at ha
  cases vx <;> first | (simp at ha; done) | skip
  case p n ver q =>
    simp only [retO, Option.some.injEq] at ha; subst ha
    cases hx with
    | p n ver o b hal hx => exact .val h (run_fieldAt hs hfl hz h0 b q) (.p n ver _ b hal hx)
  case pp y q =>
    simp only [retO, Option.some.injEq] at ha; subst ha
    cases hx with
    | pp x o vs bk of h1 hl hr hx => exact .val h (run_fieldAt hs hfl hz h0 bk (of + q)) (by rw [Nat.add_assoc]; exact .pp y _ vs bk of h1 hl hr hx)

/-- A struct or an array by value. -/
theorem inv_agg {vx : AV} {x : Value} (hx : AR C vx x) (hm : vx.isAgg) : ∃ vs : List Value, x = .agg vs.toArray ∧ RelL (AR C) vx.cells vs := by
  unfold AV.isAgg at hm
  split at hm
  · cases hx with | agg l vs hl h => exact ⟨vs, rfl, hl, h⟩
  · rename_i l
    cases hx with
    | v hx => cases hx with
      | agg _ vs h1 hl h =>
        have hr : RelL (PR C.rd) l vs := ⟨hl, h⟩
        exact ⟨vs, rfl, hr.mapL _ fun x v hx => .v hx⟩
  · exact hm.elim

theorem run_part {t : TypeId} {ag : Bool} {z : Nat} (hag : isAggT P t = some ag) (hz : sizeT P t = some z) (h1 : ag = true ∨ z = 1) {cs : List AV} {vs : List Value} (hr : RelL (AR C) cs vs) {q : Nat} (hq : q + z ≤ cs.length) :
    ∃ val, (part t vs.toArray q).run P w = .ok val w ∧ AR C (if ag then mkAgg ((cs.drop q).take z) else cs.getD q .u) val := by
  have hl := hr.1
  cases ag with
  | true =>
    refine ⟨.agg ((vs.drop q).take z).toArray, ?_, .mkAgg ((hr.drop q).take z)⟩
    simp only [part, Sem.run_bind, isAggT_run hag, Result.andThen, if_true, sizeT_run hz, Sem.run_pure]
    congr 2
    apply Array.ext'
    simp [List.extract_eq_take_drop]
  | false =>
    have hz1 : z = 1 := by simpa using h1
    subst hz1
    have hlt : q < cs.length := by omega
    have hlt' : q < vs.length := by omega
    refine ⟨vs[q], ?_, ?_⟩
    · simp only [part, Sem.run_bind, isAggT_run hag, Result.andThen, Bool.false_eq_true, if_false]
      simp [hlt']
    · simp only [Bool.false_eq_true, if_false]
      rw [getD_lt hlt]
      exact hr.2 q _ _ (by simp [hlt]) (by simp [hlt'])

theorem ok_fld (h : HR C hf wr w) {s : TypeId} {fs : Array Field} (hs : P.underlying s = some (.struct fs)) {f : Nat} {fl : Field} (hfl : fs[f]? = some fl) {z : Nat} {ag : Bool} (hag : isAggT P fl.type = some ag) (hz : sizeT P fl.type = some z) (h1 : ag = true ∨ z = 1)
    {vx : AV} {x : Value} (hx : AR C vx x) (hm : vx.isAgg) (hq : fl.offset + z ≤ vx.cells.length) :
    OpOk P C hf wr base nm (vS (Instr.field s x f)) w (if ag then mkAgg ((vx.cells.drop fl.offset).take z) else vx.cells.getD fl.offset .u) [] := by
  obtain ⟨vs, rfl, hr⟩ := inv_agg hx hm
  obtain ⟨val, hrun, hv⟩ := run_part (P := P) (w := w) hag hz h1 hr hq
  refine .val h (val := val) ?_ hv
  simp only [Instr.field, Sem.run_bind, run_underlying hs, Result.andThen, hfl, asAgg, Sem.run_pure, hrun]

theorem ok_ixV (h : HR C hf wr w) {t e : TypeId} {n : Nat} (ht : P.underlying t = some (.array n e)) {z : Nat} {ag : Bool} (hag : isAggT P e = some ag) (hz : sizeT P e = some z) (h1 : ag = true ∨ z = 1)
    {vx : AV} {x : Value} (hx : AR C vx x) (hm : vx.isAgg) {k : IntKind} {i : Int} {y : Value} (hy : AR C (.v (.i k i)) y) (h0 : 0 ≤ i) (hlt : i < n) (hq : i.toNat * z + z ≤ vx.cells.length) :
    OpOk P C hf wr base nm (vS (Instr.index t x y)) w (if ag then mkAgg ((vx.cells.drop (i.toNat * z)).take z) else vx.cells.getD (i.toNat * z) .u) [] := by
  obtain ⟨vs, rfl, hr⟩ := inv_agg hx hm
  have e := inv_i hy; subst e
  obtain ⟨val, hrun, hv⟩ := run_part (P := P) (w := w) hag hz h1 hr hq
  refine .val h (val := val) ?_ hv
  simp only [Instr.index, asIntOf, Sem.run_bind, run_underlying ht, Result.andThen, Sem.run_pure, h0, hlt, and_self, if_true, sizeT_run hz, hrun]

theorem ok_ixS (h : HR C hf wr w) {t : TypeId} (ht : P.underlying t = some .string) {b : Bytes} {x : Value} (hx : AR C (.v (.s b)) x) {k : IntKind} {i : Int} {y : Value} (hy : AR C (.v (.i k i)) y) (h0 : 0 ≤ i) (hlt : i < b.length) :
    OpOk P C hf wr base nm (vS (Instr.index t x y)) w (.v (u8 (b.getD i.toNat 0))) [] := by
  have e := inv_i hy; subst e
  have e := inv_s hx; subst e
  have hlt' : i.toNat < b.length := by omega
  refine .val h (val := .int .u8 (b.getD i.toNat 0).toNat) ?_ (.v (.i _ _))
  have hg : (ByteArray.mk b.toArray)[i.toNat]? = some b[i.toNat] := by
    have hs : i.toNat < (ByteArray.mk b.toArray).size := by simpa [ByteArray.size] using hlt'
    rw [getElem?_pos (ByteArray.mk b.toArray) i.toNat hs]
    rfl
  simp only [Instr.index, asIntOf, Sem.run_bind, run_underlying ht, Result.andThen, Sem.run_pure, h0, if_true, hg]
  rw [getD_lt hlt']

theorem ok_ixs (h : HR C hf wr w) {t e : TypeId} (ht : P.underlying t = some (.slice e)) {z : Nat} (hz : sizeT P e = some z) {vx : AV} {x : Value} (hx : AR C vx x) {vy : AV} {y : Value} (hy : AR C vy y) {ao : AO}
    (ha : aIxs z vx vy = some ao) (hp : ao.pre) : OpOk P C hf wr base nm (vS (Instr.indexAt t x y)) w ao.v ao.up := by
  unfold aIxs at ha
  have pure : ∀ (l : List PV) (q : Option Addr) (len cap : Nat) (k : IntKind) (i : Int), PR C.rd (.sl l) (.slice q len cap) → 0 ≤ i → i < l.length → (l.getD i.toNat .fn0).cells.length = z →
      OpOk P C hf wr base nm (vS (Instr.indexAt t (.slice q len cap) (.int k i))) w (.pp (l.getD i.toNat .fn0) 0) [] := by
    intro l q len cap k i hpr h0 hlt hc
    have hlt' : i.toNat < l.length := by omega
    rw [getD_lt hlt'] at hc ⊢
    cases hpr with
    | sl0 => simp at hlt; omega
    | sle a cap => simp at hlt; omega
    | sl l z' vs bk of cap hcap hz' h1' hl hr hrel =>
      have hzz : z' = z := by rw [← hz' _ (List.getElem_mem hlt'), hc]
      subst hzz
      have hfl := flat_len hz'
      have hfg := flat_get hz' hlt'
      have hrl : RelL (PR C.rd) (l.flatMap PV.cells) vs := ⟨hl, hrel⟩
      have hrl' := (hrl.drop (i.toNat * z')).take z'
      rw [hfg] at hrl'
      refine .val h (val := .pointer (some ⟨bk, of + i.toNat * z' + 0, none⟩)) ?_ (.pp _ 0 ((vs.drop (i.toNat * z')).take z') bk (of + i.toNat * z') ?_ hrl'.1 ?_ hrl'.2)
      · simp only [Instr.indexAt, asIntOf, Sem.run_bind, run_underlying ht, Result.andThen, Sem.run_pure, h0, hlt, and_self, if_true, sizeT_run hz, add_none, Nat.add_zero]
      · intro yy hyy
        rw [← hfg] at hyy
        exact h1' yy (List.mem_of_mem_drop (List.mem_of_mem_take hyy))
      · intro kk v hv
        rw [List.getElem?_take] at hv
        split at hv
        · rw [List.getElem?_drop] at hv
          rw [Nat.add_assoc]; exact hr _ _ hv
        · cases hv
  split at ha
  · skip
    simp only [retP, Option.some.injEq] at ha; subst ha
    have e := inv_i hy; subst e
    cases hx with
    | v hx =>
      have hx' := hx
      cases hx with
      | sl0 => exact pure _ _ _ _ _ _ hx' hp.1 hp.2.1 hp.2.2
      | sl => exact pure _ _ _ _ _ _ hx' hp.1 hp.2.1 hp.2.2
      | sle => exact pure _ _ _ _ _ _ hx' hp.1 hp.2.1 hp.2.2
  · skip
    simp only [retP, Option.some.injEq] at ha; subst ha
    have e := inv_i hy; subst e
    cases hx with
    | fs l a hx => exact pure _ _ _ _ _ _ hx hp.1 hp.2.1 hp.2.2
  · rename_i n ver o len z' k i
    simp only [retP, Option.some.injEq] at ha; subst ha
    have e := inv_i hy; subst e
    obtain ⟨h0, hlt, rfl⟩ := hp
    cases hx with
    | rs _ _ _ _ _ b o' cap hal hc ho hx =>
      have : o' = o := by rcases ho with ho | ho <;> omega
      subst this
      refine .val h (val := .pointer (some ⟨b, o' + i.toNat * z', none⟩)) ?_ (.p n ver _ b hal fun c hc' => ⟨(hx c hc').1, fun e => ((hx c hc').2 e).1⟩)
      simp only [Instr.indexAt, asIntOf, Sem.run_bind, run_underlying ht, Result.andThen, Sem.run_pure, h0, hlt, and_self, if_true, sizeT_run hz, add_none]
  · cases ha

theorem run_ixa {t e : TypeId} {n : Nat} (ht : P.underlying t = some (.array n e)) {z : Nat} (hz : sizeT P e = some z) (b q : Nat) (k : IntKind) (i : Int) (h0 : 0 ≤ i) (hlt : i < n) :
    (Instr.indexAt t (.pointer (some ⟨b, q, none⟩)) (.int k i)).run P w = .ok (.pointer (some ⟨b, q + i.toNat * z, none⟩)) w := by
  simp only [Instr.indexAt, asIntOf, Sem.run_bind, run_underlying ht, Result.andThen, Sem.run_pure, Instr.sureAddr, h0, hlt, and_self, if_true, sizeT_run hz, add_none]

theorem ok_ixa (h : HR C hf wr w) {t e : TypeId} {n : Nat} (ht : P.underlying t = some (.array n e)) {z : Nat} (hz : sizeT P e = some z) {vx : AV} {x : Value} (hx : AR C vx x) {vy : AV} {y : Value} (hy : AR C vy y) {ao : AO}
    (ha : aIxa n z vx vy = some ao) (hp : ao.pre) : OpOk P C hf wr base nm (vS (Instr.indexAt t x y)) w ao.v ao.up := by
  unfold aIxa at ha
  split at ha
  · rename_i m ver o k i
    simp only [retP, Option.some.injEq] at ha; subst ha
    have e := inv_i hy; subst e
    cases hx with
    | p _ _ _ b hal hx => exact .val h (run_ixa ht hz b o _ _ hp.1 hp.2) (.p m ver _ b hal hx)
  · rename_i x o k i
    simp only [retP, Option.some.injEq] at ha; subst ha
    have e := inv_i hy; subst e
    cases hx with
    | pp _ _ vs bk of h1 hl hr hx => exact .val h (run_ixa ht hz bk (of + o) _ _ hp.1 hp.2) (by rw [Nat.add_assoc]; exact .pp x _ vs bk of h1 hl hr hx)
  · cases ha

theorem ok_ext (h : HR C hf wr w) {k : Nat} {vx : AV} {x : Value} (hx : AR C vx x) {ao : AO}
    (ha : aExt k vx = some ao) (hp : ao.pre) : OpOk P C hf wr base nm (vS (Instr.extract x k)) w ao.v ao.up := by
  unfold aExt at ha
  split at ha
  · rename_i l
    simp only [retP, Option.some.injEq] at ha; subst ha
    cases hx with
    | tup _ vs hl hx =>
      have hk : k < l.length := hp
      have hk' : k < vs.length := by omega
      refine .val h (val := vs[k]) (by simp [Instr.extract, hk']) ?_
      simp only [getD_lt hk]
      exact hx k _ _ (by simp [hk]) (by simp [hk'])
  · rename_i l
    simp only [retP, Option.some.injEq] at ha; subst ha
    cases hx with
    | v hx => cases hx with
      | tup _ vs hl hx =>
        have hk : k < l.length := hp
        have hk' : k < vs.length := by omega
        refine .val h (val := vs[k]) (by simp [Instr.extract, hk']) ?_
        simp only [getD_lt hk]
        exact .v (hx k _ _ (by simp [hk]) (by simp [hk']))
  · cases ha

theorem ok_lenS (h : HR C hf wr w) {t ty : TypeId} (ht : P.underlying t = some .string) {b : Bytes} {x : Value} (hx : AR C (.v (.s b)) x) : OpOk P C hf wr base nm (vS (Builtin.len_ #[t] ty #[x])) w (.v (.i .i64 b.length)) [] := by
  refine .val h (val := .int .i64 b.length) ?_ (.v (.i _ _))
  have e := inv_s hx; subst e
  have es : (ByteArray.mk b.toArray).size = b.length := by simp [ByteArray.size]
  simp [Builtin.len_, run_underlying ht, goInt, es]

theorem ok_len (h : HR C hf wr w) {t ty e : TypeId} (hu : P.underlying t = some (.slice e)) {vx : AV} {x : Value} (hx : AR C vx x) {n : Nat} (hn : lenOf vx = some n) : OpOk P C hf wr base nm (vS (Builtin.len_ #[t] ty #[x])) w (.v (.i .i64 n)) [] := by
  refine .val h (val := .int .i64 n) ?_ (.v (.i _ _))
  unfold lenOf at hn
  split at hn <;> simp only [Option.some.injEq, reduceCtorEq] at hn
  all_goals subst hn
  · cases hx with
    | v hx => cases hx <;> simp [Builtin.len_, run_underlying hu, goInt]
  · cases hx with
    | fs l a hx => simp [Builtin.len_, run_underlying hu, goInt]
  · cases hx; simp [Builtin.len_, run_underlying hu, goInt]
  · cases hx; simp [Builtin.len_, run_underlying hu, goInt]

theorem ok_mm (h : HR C hf wr w) {mx : Bool} {ts : Array TypeId} {ty : TypeId} {k k' : IntKind} {m n : Int} {x y : Value} (hx : AR C (.v (.i k m)) x) (hy : AR C (.v (.i k' n)) y) :
    OpOk P C hf wr base nm (vS (if mx then Builtin.max_ ts ty #[x, y] else Builtin.min_ ts ty #[x, y])) w (.v (.i k (if mx then (if n > m then n else m) else (if n < m then n else m)))) [] := by
  have e := inv_i hx; subst e
  have e := inv_i hy; subst e
  refine .val h (val := .int k (if mx then (if n > m then n else m) else (if n < m then n else m))) ?_ (.v (.i _ _))
  cases mx <;> simp [Builtin.max_, Builtin.min_, Builtin.max2, Builtin.min2]

theorem PR.bytes {l : List PV} {vs : List Value} (h : RelL (PR C.rd) l vs) (hb : ∀ y ∈ l, y.isByte) : vs = l.map fun y => .int .u8 (match y with | .i _ n => n | _ => 0) := by
  induction l generalizing vs with
  | nil => rw [h.nil_inv]; rfl
  | cons y l ih =>
    obtain ⟨v, us, rfl, h1, h2⟩ := h.uncons
    rw [ih h2 fun z hz => hb z (by simp [hz])]
    have hy := hb y (by simp)
    unfold PV.isByte at hy
    split at hy
    · cases h1; rfl
    · exact hy.elim

theorem foldl_push (ns : List Int) (s : ByteArray) : ns.foldl (fun r n => r.push (UInt8.ofNat n.toNat)) s = ⟨s.data ++ (ns.map fun n => UInt8.ofNat n.toNat).toArray⟩ := by
  induction ns generalizing s with
  | nil => cases s; simp
  | cons n ns ih => rw [List.foldl_cons, ih]; cases s; simp [ByteArray.push]

theorem run_b2s {src dst e : TypeId} (hs : P.underlying src = some (.slice e)) (he : P.underlying e = some (.int .u8)) (hd : P.underlying dst = some .string) {a : Addr} {len : Nat} (ns : List Int)
    (hrun : (loadCells a len).run P w = .ok (ns.map (Value.int .u8)).toArray w) (cap : Nat) :
    (convert src dst (.slice (some a) len cap)).run P w = .ok (.string ⟨(ns.map fun n => UInt8.ofNat n.toNat).toArray⟩) w := by
  rw [run_convert_bytes_string w src dst e _ len cap hs he hd, run_bytesToString w a len cap ns hrun, foldl_push]
  simp [ByteArray.empty, ByteArray.emptyWithCapacity]
  rfl

def PV.num : PV → Int
  | .i _ n => n
  | _ => 0

theorem PR.nums {rd : Rd} {l : List PV} {vs : List Value} (h : RelL (PR rd) l vs) (hb : ∀ y ∈ l, y.isByte) : vs = (l.map PV.num).map (Value.int .u8) := by
  induction l generalizing vs with
  | nil => rw [h.nil_inv]; rfl
  | cons y l ih =>
    obtain ⟨v, us, rfl, h1, h2⟩ := h.uncons
    rw [ih h2 fun z hz => hb z (by simp [hz])]
    have hy := hb y (by simp)
    unfold PV.isByte at hy
    split at hy
    · cases h1; rfl
    · exact hy.elim

theorem byte_num {l : List PV} (hb : ∀ y ∈ l, y.isByte) : (l.map PV.num).map (fun n => UInt8.ofNat n.toNat) = l.map PV.byte := by
  induction l with
  | nil => rfl
  | cons y l ih =>
    simp only [List.map_cons]
    rw [ih fun z hz => hb z (by simp [hz])]
    have hy := hb y (by simp)
    unfold PV.isByte at hy
    split at hy
    · rfl
    · exact hy.elim

theorem byte_one {l : List PV} (hb : ∀ y ∈ l, y.isByte) : l.flatMap PV.cells = l ∧ ∀ y ∈ l, y.cells.length = 1 := by
  induction l with
  | nil => exact ⟨rfl, by simp⟩
  | cons y l ih =>
    obtain ⟨h1, h2⟩ := ih fun z hz => hb z (by simp [hz])
    have hy := hb y (by simp)
    have hc : y.cells = [y] := by
      unfold PV.isByte at hy
      split at hy
      · rfl
      · exact hy.elim
    refine ⟨by rw [List.flatMap_cons, h1, hc]; rfl, fun z hz => ?_⟩
    rcases List.mem_cons.1 hz with rfl | hz
    · rw [hc]; rfl
    · exact h2 z hz

theorem ok_b2s_pure (h : HR C hf wr w) {src dst e : TypeId} (hs : P.underlying src = some (.slice e)) (he : P.underlying e = some (.int .u8)) (hd : P.underlying dst = some .string) {l : List PV} {q : Option Addr} {len cap : Nat} (hx : PR C.rd (.sl l) (.slice q len cap)) (hb : ∀ y ∈ l, y.isByte) :
    OpOk P C hf wr base nm (vS (convert src dst (.slice q len cap))) w (.v (.s (l.map PV.byte))) [] := by
  refine .val h (val := .string ⟨(l.map PV.byte).toArray⟩) ?_ (.v (.s _))
  cases hx with
  | sl0 => rw [run_convert_bytes_nil w src e hs he 0 0 dst hd]; rfl
  | sle a cap =>
    have hld : (loadCells a 0).run P w = .ok (([] : List Int).map (Value.int .u8)).toArray w := by simp [loadCells, loadCellsFrom]
    rw [run_b2s hs he hd [] hld cap]; rfl
  | sl l z vs bk of cap hc hz h1 hl hr hrel =>
    have hrl : RelL (PR C.rd) (l.flatMap PV.cells) vs := ⟨hl, hrel⟩
    rw [(byte_one hb).1] at hrl
    have hvs := PR.nums hrl hb
    have hld := run_loadPure (P := P) h vs hr 0 l.length (by rw [← hrl.1]; omega)
    rw [Nat.add_zero, List.drop_zero, List.take_of_length_le (by rw [hrl.1]; exact Nat.le_refl _)] at hld
    rw [hvs] at hld
    rw [run_b2s hs he hd _ hld cap, byte_num hb]

theorem AR.pures {l : List AV} {vs : List Value} (h : RelL (AR C) l vs) (hb : ∀ y ∈ l, y.isByte) : ∃ ps : List PV, RelL (PR C.rd) ps vs ∧ (∀ y ∈ ps, y.isByte) ∧ l.map AV.byte = ps.map PV.byte := by
  induction l generalizing vs with
  | nil => exact ⟨[], by rw [h.nil_inv]; exact .nil, by simp, rfl⟩
  | cons y l ih =>
    obtain ⟨v, us, rfl, h1, h2⟩ := h.uncons
    obtain ⟨ps, h3, h4, h5⟩ := ih h2 fun z hz => hb z (by simp [hz])
    have hy := hb y (by simp)
    unfold AV.isByte at hy
    split at hy
    · rename_i x
      cases h1 with
      | v h1 =>
        refine ⟨x :: ps, .cons h1 h3, ?_, by simp [h5, AV.byte]⟩
        intro z hz
        rcases List.mem_cons.1 hz with rfl | hz
        · exact hy
        · exact h4 z hz
    · exact hy.elim

theorem ok_b2s_rs (h : HR C hf wr w) {src dst e : TypeId} (hs : P.underlying src = some (.slice e)) (he : P.underlying e = some (.int .u8)) (hd : P.underlying dst = some .string) {n ver o len z : Nat} {x : Value} (hx : AR C (.rs n ver o len z) x) {ob : AObj} (hn : hf n = some ob) (hver : ob.ver = ver) (hlen : o + len ≤ ob.cells.length)
    (hb : ∀ y ∈ (ob.cells.drop o).take len, y.isByte) : OpOk P C hf wr base nm (vS (convert src dst x)) w (.v (.s (((ob.cells.drop o).take len).map AV.byte))) [] := by
  cases hx with
  | rs _ _ _ _ _ b o' cap hal hc ho hx =>
    have hcur := (h.live n ob hn).2
    obtain ⟨-, h2⟩ := hx _ hcur
    obtain ⟨rfl, -⟩ := h2 hver.symm
    obtain ⟨vs, hrun, hrel⟩ := run_loadObj (P := P) h hn hlen
    obtain ⟨ps, h3, h4, h5⟩ := AR.pures hrel hb
    have hvs := PR.nums h3 h4
    rw [h5, ← byte_num h4]
    refine .val h (val := .string ⟨((ps.map PV.num).map fun n => UInt8.ofNat n.toNat).toArray⟩) ?_ (.v (.s _))
    rcases ho with ho | ho
    · have hl0 : len = 0 := by omega
      subst hl0
      have hp0 : ps = [] := by
        have := h3.1
        have h6 := hrel.1
        simp at h6
        exact List.eq_nil_of_length_eq_zero (by omega)
      subst hp0
      exact run_b2s hs he hd [] (by simp [loadCells, loadCellsFrom]) cap
    · subst ho
      exact run_b2s hs he hd _ (by rw [← hvs]; exact hrun) cap

end
end Go.Dom
