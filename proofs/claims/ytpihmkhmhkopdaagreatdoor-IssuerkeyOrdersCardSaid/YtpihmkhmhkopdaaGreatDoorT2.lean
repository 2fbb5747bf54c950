/-
  THE THEORY OF THIS CLAIM: a logic for its functions, generic over the program; part 2. Own work.
-/
import Derived.Test.YtpihmkhmhkopdaaGreatDoorT1
import Derived.Laws.MakeOwn
import Derived.Lib.Builder
import Derived.Lib.UnsafeStr
set_option linter.all false
/-
  THE ABSTRACT OPERATIONS ARE RIGHT, FOURTH PART: indexes, fields, lengths, conversions. Own work; generic over the program.
-/
set_option linter.all false
namespace Go.Dom
open Go.RowKit

section
variable {P : Program} {C : Cx} {hf : Nat → Option AObj} {wr : Nat → Prop} {base nm : Nat} {w : World} {tf : Nat → AV}

theorem ok_slR (h : HR C hf wr w) {t e : TypeId} (ht : P.underlying t = some (.slice e)) {z : Nat} (hz : sizeT P e = some z) {n ver o len : Nat} {x : Value} (hx : AR C (.rs n ver o len z) x) {vlo vhi : Option AV} {xlo xhi : Option Value} (hlo : OR C vlo xlo) (hhi : OR C vhi xhi)
    {l hh : Nat} {p : Prop} (hb : bounds len vlo vhi = some (l, hh, p)) (hp : p) : OpOk P C hf wr base nm (vS (Instr.sliceAt t x xlo xhi none)) w (.rs n ver (o + l * z) (hh - l) z) [] := by
  cases hx with
  | rs n ver o len z b o' cap ha hc ho hx =>
  obtain ⟨hrun, h1, h2⟩ := run_bounds (P := P) (w := w) (sl := true) (cap := cap) hb hp hlo hhi hc
  refine .val h (val := .slice (if cap = l then some ⟨b, o', none⟩ else (some ⟨b, o', none⟩ : Option Addr).map (·.add (l * z))) (hh - l) (cap - l)) ?_ ?_
  · simp only [Instr.sliceAt, Instr.slice, Sem.run_bind, run_underlying ht, Result.andThen, Sem.run_pure, hrun, sizeT_run hz]
  · by_cases hcl : cap = l
    · rw [if_pos hcl]
      refine .rs n ver _ _ z b o' _ ha (by omega) (.inl (by omega)) fun c hc' => ?_
      obtain ⟨h3, h4⟩ := hx c hc'
      refine ⟨h3, fun e => ⟨(h4 e).1, ?_⟩⟩
      have := (h4 e).2
      rw [hcl] at this; simp [hcl]; exact this
    · rw [if_neg hcl]
      simp only [Option.map_some, add_none]
      refine .rs n ver _ _ z b _ _ ha (by omega) (.inr ?_) fun c hc' => ?_
      · have : cap ≠ 0 := by omega
        rcases ho with ho | ho
        · omega
        · rw [ho]
      · obtain ⟨h3, h4⟩ := hx c hc'
        refine ⟨h3, fun e => ⟨(h4 e).1, ?_⟩⟩
        have := (h4 e).2
        have h5 : l * z + (cap - l) * z = cap * z := by rw [← Nat.add_mul]; congr 1; omega
        omega

theorem ok_slA (h : HR C hf wr w) {t e : TypeId} {cnt : Nat} (ht : P.underlying t = some (.array cnt e)) {z : Nat} (hz : sizeT P e = some z) {n ver o : Nat} {x : Value} (hx : AR C (.p n ver o) x) {ob : AObj} (hn : hf n = some ob) (hver : ob.ver = ver) (hlen : o + cnt * z ≤ ob.cells.length)
    {vlo vhi : Option AV} {xlo xhi : Option Value} (hlo : OR C vlo xlo) (hhi : OR C vhi xhi)
    {l hh : Nat} {p : Prop} (hb : bounds cnt vlo vhi = some (l, hh, p)) (hp : p) : OpOk P C hf wr base nm (vS (Instr.sliceAt t x xlo xhi none)) w (.rs n ver (o + l * z) (hh - l) z) [] := by
  have hal := (h.live n ob hn).1
  have hcur := (h.live n ob hn).2
  have e := inv_p hx h hn hver
  subst e
  obtain ⟨hrun, h1, h2⟩ := run_bounds (P := P) (w := w) (sl := false) (cap := cnt) hb hp hlo hhi (Nat.le_refl _)
  obtain ⟨cs, el, hh1, hh2, hh3, -⟩ := h.obj n ob hn
  refine .val h (val := .slice (some (if cnt = l then ⟨C.mu n, o, none⟩ else (⟨C.mu n, o, none⟩ : Addr).add (l * z))) (hh - l) (cnt - l)) ?_ ?_
  · simp only [Instr.sliceAt, Sem.run_bind, run_underlying ht, Result.andThen, Sem.run_pure, Instr.sureAddr, hrun, sizeT_run hz]
  · have h5 : l * z + (cnt - l) * z = cnt * z := by rw [← Nat.add_mul]; congr 1; omega
    have key : ∀ c, C.cur n = some c → ver ≤ c ∧ (ver = c → C.mu n = C.mu n ∧ o + l * z + (cnt - l) * z ≤ C.sz n) := by
      intro c hc
      rw [hcur] at hc; injection hc with hc; subst hc
      exact ⟨by omega, fun _ => ⟨rfl, by omega⟩⟩
    by_cases hcl : cnt = l
    · rw [if_pos hcl]
      exact .rs n ver _ _ z _ o _ hal (by omega) (.inl (by omega)) key
    · rw [if_neg hcl, add_none]
      exact .rs n ver _ _ z _ _ _ hal (by omega) (.inr rfl) key

theorem ok_slF (h : HR C hf wr w) {t e : TypeId} (ht : P.underlying t = some (.slice e)) {z : Nat} (hz : sizeT P e = some z) {ls : List PV} {q : Option Addr} {len cap : Nat} (hx : PR C.rd (.sl ls) (.slice q len cap)) {vlo : Option AV} {xlo : Option Value} (hlo : OR C vlo xlo)
    {kh km : IntKind} {hi mx : Int} {l hh : Nat} {p : Prop} (hb : bounds ls.length vlo (some (.v (.i kh hi))) = some (l, hh, p)) (hp : p) (hm : mx = hi) (hzz : ∀ x ∈ ls, x.cells.length = z) :
    OpOk P C hf wr base nm (vS (Instr.sliceAt t (.slice q len cap) xlo (some (.int kh hi)) (some (.int km mx)))) w (.fs ((ls.take hh).drop l)) [] := by
  have hlen : len = ls.length ∧ ls.length ≤ cap := by cases hx <;> simp_all
  obtain ⟨hlen, hcap⟩ := hlen
  subst hlen; subst hm
  obtain ⟨-, h1, h2⟩ := run_bounds (P := P) (w := w) (sl := true) (cap := cap) hb hp hlo (.some (.v (.i kh mx))) hcap
  have hhe : hh = mx.toNat ∧ 0 ≤ mx ∧ mx ≤ ls.length ∧ ((vlo = none ∧ l = 0) ∨ ∃ kl lo, vlo = some (.v (.i kl lo)) ∧ l = lo.toNat ∧ 0 ≤ lo ∧ lo ≤ mx) := by
    unfold bounds at hb
    split at hb <;> simp only [Option.some.injEq, Prod.mk.injEq, reduceCtorEq] at hb
    · rename_i heq; cases heq
    · rename_i heq; cases heq
    · rename_i heq
      simp only [Option.some.injEq, AV.v.injEq, PV.i.injEq] at heq
      obtain ⟨rfl, rfl⟩ := heq
      obtain ⟨rfl, rfl, rfl⟩ := hb
      exact ⟨rfl, hp.1, hp.2, .inl ⟨rfl, rfl⟩⟩
    · rename_i kl lo _ _ heq
      simp only [Option.some.injEq, AV.v.injEq, PV.i.injEq] at heq
      obtain ⟨rfl, rfl⟩ := heq
      obtain ⟨rfl, rfl, rfl⟩ := hb
      exact ⟨rfl, by omega, by omega, .inr ⟨_, _, rfl, rfl, by omega, by omega⟩⟩
  obtain ⟨rfl, h3, h4, h5⟩ := hhe
  have hsub := hx.sub (z := z) (lo := l) (hi := mx.toNat) hzz h1 h2
  have hq : ∃ a, (if mx.toNat = l then q else q.map (·.add (l * z))) = a ∧ PR C.rd (.sl ((ls.take mx.toNat).drop l)) (.slice a (mx.toNat - l) (mx.toNat - l)) := by
    refine ⟨_, rfl, ?_⟩
    have hlen' : ((ls.take mx.toNat).drop l).length = mx.toNat - l := by simp; omega
    by_cases e : mx.toNat = l
    · rw [if_pos e]
      have h6 : (ls.take mx.toNat).drop l = [] := by apply List.eq_nil_of_length_eq_zero; omega
      rw [h6, e, Nat.sub_self]
      cases hx with
      | sl0 => exact .sl0
      | sle a cap => exact .sle a 0
      | sl l' z' vs bk of cap hc hz' h1' hl hr h => exact .sl [] 0 [] bk of 0 (by simp) (by simp) (by simp) (by simp) (by simp) (by simp)
    · rw [if_neg e]
      have e' : cap ≠ l := by omega
      rw [if_neg e'] at hsub
      generalize (ls.take mx.toNat).drop l = r at *
      generalize q.map (·.add (l * z)) = qq at *
      rw [← hlen'] at hsub ⊢
      generalize cap - l = cap' at hsub
      generalize hrr : r.length = rr at hsub ⊢
      cases hsub with
      | sl0 => exact .sl0
      | sle a cap => exact .sle a _
      | sl l' z' vs bk of cap hc hz' h1' hl hr h => exact .sl _ z' vs bk of _ (Nat.le_refl _) hz' h1' hl hr h
  obtain ⟨a, hqa, hpr⟩ := hq
  have hlen' : ((ls.take mx.toNat).drop l).length = mx.toNat - l := by simp; omega
  refine .val h (val := .slice a (mx.toNat - l) (mx.toNat - l)) ?_ ?_
  · have hb1 : (Instr.sliceBounds true ls.length cap xlo (some (.int kh mx)) (some (.int km mx))).run P w = .ok (l, mx.toNat, mx.toNat) w := by
      rcases h5 with ⟨rfl, rfl⟩ | ⟨kl, lo, rfl, rfl, h6, h7⟩
      · cases hlo
        simp only [Instr.sliceBounds, Sem.run_bind, Sem.run_pure, Result.andThen]
        rw [run_sliceBound _ _ _ _ _ h3 (by omega)]
        simp only [Result.andThen]
        rw [run_sliceBound _ _ _ _ _ h3 (by omega)]
      · cases hlo with | some h8 => ?_
        have e := inv_i h8; subst e
        simp only [Instr.sliceBounds, Sem.run_bind, Sem.run_pure, Result.andThen]
        rw [run_sliceBound _ _ _ _ _ h3 (by omega)]
        simp only [Result.andThen]
        rw [run_sliceBound _ _ _ _ _ h3 (by omega)]
        simp only [Result.andThen]
        rw [run_sliceBound _ _ _ _ _ h6 (by omega)]
    simp only [Instr.sliceAt, Instr.slice, Sem.run_bind, run_underlying ht, Result.andThen, Sem.run_pure, hb1, sizeT_run hz, hqa]
  · have := AR.fs (C := C) ((ls.take mx.toNat).drop l) a (by rw [hlen']; exact hpr)
    rw [hlen'] at this; exact this

end
end Go.Dom

/-
  THE ABSTRACT OPERATIONS ARE RIGHT, FIFTH PART: indexes, fields, lengths, conversions. Own work; generic over the program.
-/
set_option linter.all false
namespace Go.Dom
open Go.RowKit

section
variable {P : Program} {C : Cx} {hf : Nat → Option AObj} {wr : Nat → Prop} {base nm : Nat} {w : World} {tf : Nat → AV}

theorem run_fieldAt {s : TypeId} {fs : Array Field} (hs : P.underlying s = some (.struct fs)) {f : Nat} {fl : Field} (hfl : fs[f]? = some fl) {z : Nat} (hz : sizeT P fl.type = some z) (h0 : z ≠ 0) (b q : Nat) :
    (Instr.fieldAt s (.pointer (some ⟨b, q, none⟩)) f).run P w = .ok (.pointer (some ⟨b, q + fl.offset, none⟩)) w := by
  simp only [Instr.fieldAt, Sem.run_bind, run_underlying hs, Result.andThen, hfl, Instr.sureAddr, Sem.run_pure, fieldPlace, sizeT_run hz, h0, if_false, add_none]

theorem ok_fad (h : HR C hf wr w) {s : TypeId} {fs : Array Field} (hs : P.underlying s = some (.struct fs)) {f : Nat} {fl : Field} (hfl : fs[f]? = some fl) {z : Nat} (hz : sizeT P fl.type = some z) (h0 : z ≠ 0)
    {vx : AV} {x : Value} (hx : AR C vx x) {ao : AO}
    (ha : aFad fl.offset vx = some ao) : OpOk P C hf wr base nm (vS (Instr.fieldAt s x f)) w ao.v ao.up := by
  unfold aFad at ha
  replace hx := hx.nz
  generalize vx.nz = vx at hx ha
  cases vx <;> first | (simp at ha; done) | skip
  case p n ver q =>
    simp only [retO, Option.some.injEq] at ha; subst ha
    cases hx with
    | p n ver o b hal hx => exact .val h (run_fieldAt hs hfl hz h0 b q) (.p n ver _ b hal hx)
  case pp y q =>
    simp only [retO, Option.some.injEq] at ha; subst ha
    cases hx with
    | pp x o vs bk of h1 hl hr hx => exact .val h (run_fieldAt hs hfl hz h0 bk (of + q)) (by rw [Nat.add_assoc]; exact .pp y _ vs bk of h1 hl hr hx)

/-- A struct or an array by value. -/
theorem inv_agg {vx : AV} {x : Value} (hx : AR C vx x) (hm : vx.isAgg) : ∃ vs : List Value, x = .agg vs.toArray ∧ RelL (AR C) vx.cells vs := by
  unfold AV.isAgg at hm
  split at hm
  · cases hx with | agg l vs hl h => exact ⟨vs, rfl, hl, h⟩
  · rename_i l
    cases hx with
    | v hx => cases hx with
      | agg _ vs h1 hl h =>
        have hr : RelL (PR C.rd) l vs := ⟨hl, h⟩
        exact ⟨vs, rfl, hr.mapL _ fun x v hx => .v hx⟩
  · exact hm.elim

theorem run_part {t : TypeId} {ag : Bool} {z : Nat} (hag : isAggT P t = some ag) (hz : sizeT P t = some z) (h1 : ag = true ∨ z = 1) {cs : List AV} {vs : List Value} (hr : RelL (AR C) cs vs) {q : Nat} (hq : q + z ≤ cs.length) :
    ∃ val, (part t vs.toArray q).run P w = .ok val w ∧ AR C (if ag then mkAgg ((cs.drop q).take z) else cs.getD q .u) val := by
  have hl := hr.1
  cases ag with
  | true =>
    refine ⟨.agg ((vs.drop q).take z).toArray, ?_, .mkAgg ((hr.drop q).take z)⟩
    simp only [part, Sem.run_bind, isAggT_run hag, Result.andThen, if_true, sizeT_run hz, Sem.run_pure]
    congr 2
    apply Array.ext'
    simp [List.extract_eq_take_drop]
  | false =>
    have hz1 : z = 1 := by simpa using h1
    subst hz1
    have hlt : q < cs.length := by omega
    have hlt' : q < vs.length := by omega
    refine ⟨vs[q], ?_, ?_⟩
    · simp only [part, Sem.run_bind, isAggT_run hag, Result.andThen, Bool.false_eq_true, if_false]
      simp [hlt']
    · simp only [Bool.false_eq_true, if_false]
      rw [getD_lt hlt]
      exact hr.2 q _ _ (by simp [hlt]) (by simp [hlt'])

theorem ok_fld (h : HR C hf wr w) {s : TypeId} {fs : Array Field} (hs : P.underlying s = some (.struct fs)) {f : Nat} {fl : Field} (hfl : fs[f]? = some fl) {z : Nat} {ag : Bool} (hag : isAggT P fl.type = some ag) (hz : sizeT P fl.type = some z) (h1 : ag = true ∨ z = 1)
    {vx : AV} {x : Value} (hx : AR C vx x) (hm : vx.isAgg) (hq : fl.offset + z ≤ vx.cells.length) :
    OpOk P C hf wr base nm (vS (Instr.field s x f)) w (if ag then mkAgg ((vx.cells.drop fl.offset).take z) else vx.cells.getD fl.offset .u) [] := by
  obtain ⟨vs, rfl, hr⟩ := inv_agg hx hm
  obtain ⟨val, hrun, hv⟩ := run_part (P := P) (w := w) hag hz h1 hr hq
  refine .val h (val := val) ?_ hv
  simp only [Instr.field, Sem.run_bind, run_underlying hs, Result.andThen, hfl, asAgg, Sem.run_pure, hrun]

theorem ok_ixV (h : HR C hf wr w) {t e : TypeId} {n : Nat} (ht : P.underlying t = some (.array n e)) {z : Nat} {ag : Bool} (hag : isAggT P e = some ag) (hz : sizeT P e = some z) (h1 : ag = true ∨ z = 1)
    {vx : AV} {x : Value} (hx : AR C vx x) (hm : vx.isAgg) {k : IntKind} {i : Int} {y : Value} (hy : AR C (.v (.i k i)) y) (h0 : 0 ≤ i) (hlt : i < n) (hq : i.toNat * z + z ≤ vx.cells.length) :
    OpOk P C hf wr base nm (vS (Instr.index t x y)) w (if ag then mkAgg ((vx.cells.drop (i.toNat * z)).take z) else vx.cells.getD (i.toNat * z) .u) [] := by
  obtain ⟨vs, rfl, hr⟩ := inv_agg hx hm
  have e := inv_i hy; subst e
  obtain ⟨val, hrun, hv⟩ := run_part (P := P) (w := w) hag hz h1 hr hq
  refine .val h (val := val) ?_ hv
  simp only [Instr.index, asIntOf, Sem.run_bind, run_underlying ht, Result.andThen, Sem.run_pure, h0, hlt, and_self, if_true, sizeT_run hz, hrun]

theorem ok_ixS (h : HR C hf wr w) {t : TypeId} (ht : P.underlying t = some .string) {b : Bytes} {x : Value} (hx : AR C (.v (.s b)) x) {k : IntKind} {i : Int} {y : Value} (hy : AR C (.v (.i k i)) y) (h0 : 0 ≤ i) (hlt : i < b.length) :
    OpOk P C hf wr base nm (vS (Instr.index t x y)) w (.v (u8 (b.getD i.toNat 0))) [] := by
  have e := inv_i hy; subst e
  have e := inv_s hx; subst e
  have hlt' : i.toNat < b.length := by omega
  refine .val h (val := .int .u8 (b.getD i.toNat 0).toNat) ?_ (.v (.i _ _))
  have hg : (ByteArray.mk b.toArray)[i.toNat]? = some b[i.toNat] := by
    have hs : i.toNat < (ByteArray.mk b.toArray).size := by simpa [ByteArray.size] using hlt'
    rw [getElem?_pos (ByteArray.mk b.toArray) i.toNat hs]
    rfl
  simp only [Instr.index, asIntOf, Sem.run_bind, run_underlying ht, Result.andThen, Sem.run_pure, h0, if_true, hg]
  rw [getD_lt hlt']

theorem ok_ixs (h : HR C hf wr w) {t e : TypeId} (ht : P.underlying t = some (.slice e)) {z : Nat} (hz : sizeT P e = some z) {vx : AV} {x : Value} (hx : AR C vx x) {vy : AV} {y : Value} (hy : AR C vy y) {ao : AO}
    (ha : aIxs z vx vy = some ao) (hp : ao.pre) : OpOk P C hf wr base nm (vS (Instr.indexAt t x y)) w ao.v ao.up := by
  unfold aIxs at ha
  have pure : ∀ (l : List PV) (q : Option Addr) (len cap : Nat) (k : IntKind) (i : Int), PR C.rd (.sl l) (.slice q len cap) → 0 ≤ i → i < l.length → (l.getD i.toNat .fn0).cells.length = z →
      OpOk P C hf wr base nm (vS (Instr.indexAt t (.slice q len cap) (.int k i))) w (.pp (l.getD i.toNat .fn0) 0) [] := by
    intro l q len cap k i hpr h0 hlt hc
    have hlt' : i.toNat < l.length := by omega
    rw [getD_lt hlt'] at hc ⊢
    cases hpr with
    | sl0 => simp at hlt; omega
    | sle a cap => simp at hlt; omega
    | sl l z' vs bk of cap hcap hz' h1' hl hr hrel =>
      have hzz : z' = z := by rw [← hz' _ (List.getElem_mem hlt'), hc]
      subst hzz
      have hfl := flat_len hz'
      have hfg := flat_get hz' hlt'
      have hrl : RelL (PR C.rd) (l.flatMap PV.cells) vs := ⟨hl, hrel⟩
      have hrl' := (hrl.drop (i.toNat * z')).take z'
      rw [hfg] at hrl'
      refine .val h (val := .pointer (some ⟨bk, of + i.toNat * z' + 0, none⟩)) ?_ (.pp _ 0 ((vs.drop (i.toNat * z')).take z') bk (of + i.toNat * z') ?_ hrl'.1 ?_ hrl'.2)
      · simp only [Instr.indexAt, asIntOf, Sem.run_bind, run_underlying ht, Result.andThen, Sem.run_pure, h0, hlt, and_self, if_true, sizeT_run hz, add_none, Nat.add_zero]
      · intro yy hyy
        rw [← hfg] at hyy
        exact h1' yy (List.mem_of_mem_drop (List.mem_of_mem_take hyy))
      · intro kk v hv
        rw [List.getElem?_take] at hv
        split at hv
        · rw [List.getElem?_drop] at hv
          rw [Nat.add_assoc]; exact hr _ _ hv
        · cases hv
  split at ha
  · skip
    simp only [retP, Option.some.injEq] at ha; subst ha
    have e := inv_i hy; subst e
    cases hx with
    | v hx =>
      have hx' := hx
      cases hx with
      | sl0 => exact pure _ _ _ _ _ _ hx' hp.1 hp.2.1 hp.2.2
      | sl => exact pure _ _ _ _ _ _ hx' hp.1 hp.2.1 hp.2.2
      | sle => exact pure _ _ _ _ _ _ hx' hp.1 hp.2.1 hp.2.2
  · skip
    simp only [retP, Option.some.injEq] at ha; subst ha
    have e := inv_i hy; subst e
    cases hx with
    | fs l a hx => exact pure _ _ _ _ _ _ hx hp.1 hp.2.1 hp.2.2
  · rename_i n ver o len z' k i
    simp only [retP, Option.some.injEq] at ha; subst ha
    have e := inv_i hy; subst e
    obtain ⟨h0, hlt, rfl⟩ := hp
    cases hx with
    | rs _ _ _ _ _ b o' cap hal hc ho hx =>
      have : o' = o := by rcases ho with ho | ho <;> omega
      subst this
      refine .val h (val := .pointer (some ⟨b, o' + i.toNat * z', none⟩)) ?_ (.p n ver _ b hal fun c hc' => ⟨(hx c hc').1, fun e => ((hx c hc').2 e).1⟩)
      simp only [Instr.indexAt, asIntOf, Sem.run_bind, run_underlying ht, Result.andThen, Sem.run_pure, h0, hlt, and_self, if_true, sizeT_run hz, add_none]
  · cases ha

theorem run_ixa {t e : TypeId} {n : Nat} (ht : P.underlying t = some (.array n e)) {z : Nat} (hz : sizeT P e = some z) (b q : Nat) (k : IntKind) (i : Int) (h0 : 0 ≤ i) (hlt : i < n) :
    (Instr.indexAt t (.pointer (some ⟨b, q, none⟩)) (.int k i)).run P w = .ok (.pointer (some ⟨b, q + i.toNat * z, none⟩)) w := by
  simp only [Instr.indexAt, asIntOf, Sem.run_bind, run_underlying ht, Result.andThen, Sem.run_pure, Instr.sureAddr, h0, hlt, and_self, if_true, sizeT_run hz, add_none]

theorem ok_ixa (h : HR C hf wr w) {t e : TypeId} {n : Nat} (ht : P.underlying t = some (.array n e)) {z : Nat} (hz : sizeT P e = some z) {vx : AV} {x : Value} (hx : AR C vx x) {vy : AV} {y : Value} (hy : AR C vy y) {ao : AO}
    (ha : aIxa n z vx vy = some ao) (hp : ao.pre) : OpOk P C hf wr base nm (vS (Instr.indexAt t x y)) w ao.v ao.up := by
  unfold aIxa at ha
  replace hx := hx.nz
  generalize vx.nz = vx at hx ha
  split at ha
  · rename_i m ver o k i
    simp only [retP, Option.some.injEq] at ha; subst ha
    have e := inv_i hy; subst e
    cases hx with
    | p _ _ _ b hal hx => exact .val h (run_ixa ht hz b o _ _ hp.1 hp.2) (.p m ver _ b hal hx)
  · rename_i x o k i
    simp only [retP, Option.some.injEq] at ha; subst ha
    have e := inv_i hy; subst e
    cases hx with
    | pp _ _ vs bk of h1 hl hr hx => exact .val h (run_ixa ht hz bk (of + o) _ _ hp.1 hp.2) (by rw [Nat.add_assoc]; exact .pp x _ vs bk of h1 hl hr hx)
  · cases ha

theorem ok_ext (h : HR C hf wr w) {k : Nat} {vx : AV} {x : Value} (hx : AR C vx x) {ao : AO}
    (ha : aExt k vx = some ao) (hp : ao.pre) : OpOk P C hf wr base nm (vS (Instr.extract x k)) w ao.v ao.up := by
  unfold aExt at ha
  split at ha
  · rename_i l
    simp only [retP, Option.some.injEq] at ha; subst ha
    cases hx with
    | tup _ vs hl hx =>
      have hk : k < l.length := hp
      have hk' : k < vs.length := by omega
      refine .val h (val := vs[k]) (by simp [Instr.extract, hk']) ?_
      simp only [getD_lt hk]
      exact hx k _ _ (by simp [hk]) (by simp [hk'])
  · rename_i l
    simp only [retP, Option.some.injEq] at ha; subst ha
    cases hx with
    | v hx => cases hx with
      | tup _ vs hl hx =>
        have hk : k < l.length := hp
        have hk' : k < vs.length := by omega
        refine .val h (val := vs[k]) (by simp [Instr.extract, hk']) ?_
        simp only [getD_lt hk]
        exact .v (hx k _ _ (by simp [hk]) (by simp [hk']))
  · cases ha

theorem ok_lenS (h : HR C hf wr w) {t ty : TypeId} (ht : P.underlying t = some .string) {b : Bytes} {x : Value} (hx : AR C (.v (.s b)) x) : OpOk P C hf wr base nm (vS (Builtin.len_ #[t] ty #[x])) w (.v (.i .i64 b.length)) [] := by
  refine .val h (val := .int .i64 b.length) ?_ (.v (.i _ _))
  have e := inv_s hx; subst e
  have es : (ByteArray.mk b.toArray).size = b.length := by simp [ByteArray.size]
  simp [Builtin.len_, run_underlying ht, goInt, es]

theorem ok_len (h : HR C hf wr w) {t ty e : TypeId} (hu : P.underlying t = some (.slice e)) {vx : AV} {x : Value} (hx : AR C vx x) {n : Nat} (hn : lenOf vx = some n) : OpOk P C hf wr base nm (vS (Builtin.len_ #[t] ty #[x])) w (.v (.i .i64 n)) [] := by
  refine .val h (val := .int .i64 n) ?_ (.v (.i _ _))
  unfold lenOf at hn
  split at hn <;> simp only [Option.some.injEq, reduceCtorEq] at hn
  all_goals subst hn
  · cases hx with
    | v hx => cases hx <;> simp [Builtin.len_, run_underlying hu, goInt]
  · cases hx with
    | fs l a hx => simp [Builtin.len_, run_underlying hu, goInt]
  · cases hx; simp [Builtin.len_, run_underlying hu, goInt]
  · cases hx; simp [Builtin.len_, run_underlying hu, goInt]

theorem ok_mm (h : HR C hf wr w) {mx : Bool} {ts : Array TypeId} {ty : TypeId} {k k' : IntKind} {m n : Int} {x y : Value} (hx : AR C (.v (.i k m)) x) (hy : AR C (.v (.i k' n)) y) :
    OpOk P C hf wr base nm (vS (if mx then Builtin.max_ ts ty #[x, y] else Builtin.min_ ts ty #[x, y])) w (.v (.i k (if mx then (if n > m then n else m) else (if n < m then n else m)))) [] := by
  have e := inv_i hx; subst e
  have e := inv_i hy; subst e
  refine .val h (val := .int k (if mx then (if n > m then n else m) else (if n < m then n else m))) ?_ (.v (.i _ _))
  cases mx <;> simp [Builtin.max_, Builtin.min_, Builtin.max2, Builtin.min2]

theorem PR.bytes {l : List PV} {vs : List Value} (h : RelL (PR C.rd) l vs) (hb : ∀ y ∈ l, y.isByte) : vs = l.map fun y => .int .u8 (match y with | .i _ n => n | _ => 0) := by
  induction l generalizing vs with
  | nil => rw [h.nil_inv]; rfl
  | cons y l ih =>
    obtain ⟨v, us, rfl, h1, h2⟩ := h.uncons
    rw [ih h2 fun z hz => hb z (by simp [hz])]
    have hy := hb y (by simp)
    unfold PV.isByte at hy
    split at hy
    · cases h1; rfl
    · exact hy.elim

theorem foldl_push (ns : List Int) (s : ByteArray) : ns.foldl (fun r n => r.push (UInt8.ofNat n.toNat)) s = ⟨s.data ++ (ns.map fun n => UInt8.ofNat n.toNat).toArray⟩ := by
  induction ns generalizing s with
  | nil => cases s; simp
  | cons n ns ih => rw [List.foldl_cons, ih]; cases s; simp [ByteArray.push]

theorem run_b2s {src dst e : TypeId} (hs : P.underlying src = some (.slice e)) (he : P.underlying e = some (.int .u8)) (hd : P.underlying dst = some .string) {a : Addr} {len : Nat} (ns : List Int)
    (hrun : (loadCells a len).run P w = .ok (ns.map (Value.int .u8)).toArray w) (cap : Nat) :
    (convert src dst (.slice (some a) len cap)).run P w = .ok (.string ⟨(ns.map fun n => UInt8.ofNat n.toNat).toArray⟩) w := by
  rw [run_convert_bytes_string w src dst e _ len cap hs he hd, run_bytesToString w a len cap ns hrun, foldl_push]
  simp [ByteArray.empty, ByteArray.emptyWithCapacity]
  rfl

def PV.num : PV → Int
  | .i _ n => n
  | _ => 0

theorem PR.nums {rd : Rd} {l : List PV} {vs : List Value} (h : RelL (PR rd) l vs) (hb : ∀ y ∈ l, y.isByte) : vs = (l.map PV.num).map (Value.int .u8) := by
  induction l generalizing vs with
  | nil => rw [h.nil_inv]; rfl
  | cons y l ih =>
    obtain ⟨v, us, rfl, h1, h2⟩ := h.uncons
    rw [ih h2 fun z hz => hb z (by simp [hz])]
    have hy := hb y (by simp)
    unfold PV.isByte at hy
    split at hy
    · cases h1; rfl
    · exact hy.elim

theorem byte_num {l : List PV} (hb : ∀ y ∈ l, y.isByte) : (l.map PV.num).map (fun n => UInt8.ofNat n.toNat) = l.map PV.byte := by
  induction l with
  | nil => rfl
  | cons y l ih =>
    simp only [List.map_cons]
    rw [ih fun z hz => hb z (by simp [hz])]
    have hy := hb y (by simp)
    unfold PV.isByte at hy
    split at hy
    · rfl
    · exact hy.elim

theorem byte_one {l : List PV} (hb : ∀ y ∈ l, y.isByte) : l.flatMap PV.cells = l ∧ ∀ y ∈ l, y.cells.length = 1 := by
  induction l with
  | nil => exact ⟨rfl, by simp⟩
  | cons y l ih =>
    obtain ⟨h1, h2⟩ := ih fun z hz => hb z (by simp [hz])
    have hy := hb y (by simp)
    have hc : y.cells = [y] := by
      unfold PV.isByte at hy
      split at hy
      · rfl
      · exact hy.elim
    refine ⟨by rw [List.flatMap_cons, h1, hc]; rfl, fun z hz => ?_⟩
    rcases List.mem_cons.1 hz with rfl | hz
    · rw [hc]; rfl
    · exact h2 z hz

theorem ok_b2s_pure (h : HR C hf wr w) {src dst e : TypeId} (hs : P.underlying src = some (.slice e)) (he : P.underlying e = some (.int .u8)) (hd : P.underlying dst = some .string) {l : List PV} {q : Option Addr} {len cap : Nat} (hx : PR C.rd (.sl l) (.slice q len cap)) (hb : ∀ y ∈ l, y.isByte) :
    OpOk P C hf wr base nm (vS (convert src dst (.slice q len cap))) w (.v (.s (l.map PV.byte))) [] := by
  refine .val h (val := .string ⟨(l.map PV.byte).toArray⟩) ?_ (.v (.s _))
  cases hx with
  | sl0 => rw [run_convert_bytes_nil w src e hs he 0 0 dst hd]; rfl
  | sle a cap =>
    have hld : (loadCells a 0).run P w = .ok (([] : List Int).map (Value.int .u8)).toArray w := by simp [loadCells, loadCellsFrom]
    rw [run_b2s hs he hd [] hld cap]; rfl
  | sl l z vs bk of cap hc hz h1 hl hr hrel =>
    have hrl : RelL (PR C.rd) (l.flatMap PV.cells) vs := ⟨hl, hrel⟩
    rw [(byte_one hb).1] at hrl
    have hvs := PR.nums hrl hb
    have hld := run_loadPure (P := P) h vs hr 0 l.length (by rw [← hrl.1]; omega)
    rw [Nat.add_zero, List.drop_zero, List.take_of_length_le (by rw [hrl.1]; exact Nat.le_refl _)] at hld
    rw [hvs] at hld
    rw [run_b2s hs he hd _ hld cap, byte_num hb]

theorem AR.pures {l : List AV} {vs : List Value} (h : RelL (AR C) l vs) (hb : ∀ y ∈ l, y.isByte) : ∃ ps : List PV, RelL (PR C.rd) ps vs ∧ (∀ y ∈ ps, y.isByte) ∧ l.map AV.byte = ps.map PV.byte := by
  induction l generalizing vs with
  | nil => exact ⟨[], by rw [h.nil_inv]; exact .nil, by simp, rfl⟩
  | cons y l ih =>
    obtain ⟨v, us, rfl, h1, h2⟩ := h.uncons
    obtain ⟨ps, h3, h4, h5⟩ := ih h2 fun z hz => hb z (by simp [hz])
    have hy := hb y (by simp)
    unfold AV.isByte at hy
    split at hy
    · rename_i x
      cases h1 with
      | v h1 =>
        refine ⟨x :: ps, .cons h1 h3, ?_, by simp [h5, AV.byte]⟩
        intro z hz
        rcases List.mem_cons.1 hz with rfl | hz
        · exact hy
        · exact h4 z hz
    · exact hy.elim

theorem ok_b2s_rs (h : HR C hf wr w) {src dst e : TypeId} (hs : P.underlying src = some (.slice e)) (he : P.underlying e = some (.int .u8)) (hd : P.underlying dst = some .string) {n ver o len z : Nat} {x : Value} (hx : AR C (.rs n ver o len z) x) {ob : AObj} (hn : hf n = some ob) (hver : ob.ver = ver) (hlen : o + len ≤ ob.cells.length)
    (hb : ∀ y ∈ (ob.cells.drop o).take len, y.isByte) : OpOk P C hf wr base nm (vS (convert src dst x)) w (.v (.s (((ob.cells.drop o).take len).map AV.byte))) [] := by
  cases hx with
  | rs _ _ _ _ _ b o' cap hal hc ho hx =>
    have hcur := (h.live n ob hn).2
    obtain ⟨-, h2⟩ := hx _ hcur
    obtain ⟨rfl, -⟩ := h2 hver.symm
    obtain ⟨vs, hrun, hrel⟩ := run_loadObj (P := P) h hn hlen
    obtain ⟨ps, h3, h4, h5⟩ := AR.pures hrel hb
    have hvs := PR.nums h3 h4
    rw [h5, ← byte_num h4]
    refine .val h (val := .string ⟨((ps.map PV.num).map fun n => UInt8.ofNat n.toNat).toArray⟩) ?_ (.v (.s _))
    rcases ho with ho | ho
    · have hl0 : len = 0 := by omega
      subst hl0
      have hp0 : ps = [] := by
        have := h3.1
        have h6 := hrel.1
        simp at h6
        exact List.eq_nil_of_length_eq_zero (by omega)
      subst hp0
      exact run_b2s hs he hd [] (by simp [loadCells, loadCellsFrom]) cap
    · subst ho
      exact run_b2s hs he hd _ (by rw [← hvs]; exact hrun) cap

end
end Go.Dom

/-
  THE ABSTRACT OPERATIONS ARE RIGHT, SIXTH PART: those that make or write memory. Own work; generic over the program.
-/
set_option linter.all false
namespace Go.Dom
open Go.RowKit

section
variable {P : Program} {C : Cx} {hf : Nat → Option AObj} {wr : Nat → Prop} {base nm : Nat} {w : World} {tf : Nat → AV}

/-- A new object in a block of its own. -/
theorem ok_new (h : HR C hf wr w) (hnm : ¬ C.al nm) (hwr : ∀ b, base ≤ b → wr b) (hbase : base ≤ w.heap.size) {s : Sem Next} {val : Value} {cells : List AV} {gr : Bool} {vs : Array Value} {el : TypeId} {v : AV} {eo : Option TypeId} (heo : eo = none ∨ eo = some el)
    (hrun : s.run P w = .ok (.value val) (w.alloc (.cells vs el)) ∨ s.run P w = .ok (.value val) (w.drew.alloc (.cells vs el)))
    (hl : cells.length ≤ vs.size) (hg : gr = false → cells.length = vs.size) (hc : ∀ (k : Nat) (x : AV) (v : Value), cells[k]? = some x → vs[k]? = some v → AR C x v)
    (hv : AR (C.newObj w nm vs.size) v val) : OpOk P C hf wr base nm s w v [(nm, some ⟨0, cells, gr, eo⟩)] := by
  have hle := Cx.le_newObj w (z := vs.size) hnm
  rcases hrun with hrun | hrun
  · refine ⟨val, _, C.newObj w nm vs.size, .inl hrun, hv, ?_, hle, fun _ => Iff.rfl, Wf.alloc _ _ _, fun _ _ => rfl, .one (.inr (.inr (by simpa [Cx.newObj] using hbase))) fun k e => by simp [Cx.newObj, e]⟩
    rw [updF_one]
    exact h.newObj hnm (hwr _ hbase) cells gr vs el eo heo hl hg hc
  · refine ⟨val, _, C.newObj w nm vs.size, .inl hrun, hv, ?_, hle, fun _ => Iff.rfl, (Wf.drew _ _).trans (Wf.alloc _ _ _), fun _ _ => rfl, .one (.inr (.inr (by simpa [Cx.newObj] using hbase))) fun k e => by simp [Cx.newObj, e]⟩
    rw [updF_one]
    exact (h.world (w' := w.drew) fun _ _ => rfl).newObj hnm (hwr _ hbase) cells gr vs el eo heo hl hg hc

theorem zeroC_run {t : TypeId} {z : List AV} (h : zeroC P t = some z) : ∃ v : Value, (∀ w, (zeroValue t).run P w = .ok v w) ∧ RelL (AR C) z v.cells.toList ∧ sizeT P t = some v.cells.size := by
  unfold zeroC at h
  simp only [Option.bind_eq_bind, Option.bind_eq_some_iff] at h
  obtain ⟨i, hi, v, hv, h⟩ := h
  split at h
  · rename_i hsz
    refine ⟨v, fun w => by simp [zeroValue, typeInfo, hi, hv], ?_, by simp [sizeT, hi, hsz]⟩
    obtain ⟨h1, h2⟩ := mapO_some h
    exact ⟨by simpa using h1.symm, fun k x u hx hu => cvC_ok (h2 k u x hu hx)⟩
  · cases h

theorem newObj_p (C : Cx) (w : World) (nm z : Nat) : AR (C.newObj w nm z) (.p nm 0 0) (.pointer (some ⟨w.heap.size, 0, none⟩)) :=
  .p nm 0 0 _ (.inr rfl) fun c hc => by simp [Cx.newObj] at hc ⊢

theorem ok_alloc (h : HR C hf wr w) (hnm : ¬ C.al nm) (hwr : ∀ b, base ≤ b → wr b) (hbase : base ≤ w.heap.size) {t : TypeId} {z : List AV} (hz : zeroC P t = some z) :
    OpOk P C hf wr base nm (vS (Instr.alloc t true (.tuple #[]))) w (.p nm 0 0) [(nm, some ⟨0, z, false, some t⟩)] := by
  obtain ⟨v, hv, hr, -⟩ := zeroC_run (C := C) hz
  refine ok_new h hnm hwr hbase (.inr rfl) (vs := v.cells) (el := t) (.inl ?_) (by have := hr.1; simpa using Nat.le_of_eq this) (fun _ => by simpa using hr.1) ?_ (newObj_p _ _ _ _)
  · simp only [vS, Instr.alloc, Sem.run_bind, hv, Result.andThen, newVar, newRow, run_newObj, Sem.run_pure]; rfl
  · intro k x u hx hu
    exact hr.2 k x u hx (by simpa using hu)

theorem ok_box (h : HR C hf wr w) (hnm : ¬ C.al nm) (hwr : ∀ b, base ≤ b → wr b) (hbase : base ≤ w.heap.size) (t : TypeId) {vx : AV} {x : Value} (hx : AR C vx x) (hk : vx.okc = true) :
    OpOk P C hf wr base nm (vS (Instr.box t x)) w (.p nm 0 0) [(nm, some ⟨0, vx.cells, false, none⟩)] := by
  obtain ⟨vs, hvs, hr, -⟩ := hx.cells hk
  refine ok_new h hnm hwr hbase (.inl rfl) (vs := vs.toArray) (el := t) (.inl ?_) (by have := hr.1; simpa using Nat.le_of_eq this) (fun _ => by simpa using hr.1) ?_ (newObj_p _ _ _ _)
  · simp only [vS, Instr.box, Sem.run_bind, Result.andThen, newVar, newRow, run_newObj, Sem.run_pure, hvs]; rfl
  · intro k x u hx hu
    exact hr.2 k x u hx (by simpa using hu)

theorem setRow_heap {g : Nat} {cs cs' : Array Value} {el : TypeId} {fr : Nat × Nat} (hg : w.heap[g]? = some (.cells cs el fr)) : (w.setRow g cs').heap[g]? = some (.cells cs' el fr) ∧ (∀ b, b ≠ g → (w.setRow g cs').heap[b]? = w.heap[b]?) := by
  constructor
  · simp [World.setRow, Array.getElem?_modify, hg]
  · intro b hb
    simp only [World.setRow, Array.getElem?_modify]
    rw [if_neg (by omega)]

theorem Wf.setRow {g : Nat} (cs' : Array Value) (hwr : wr g) : Wf wr w (w.setRow g cs') := by
  refine ⟨rfl, rfl, rfl, by simp, fun b _ hn => ?_⟩
  have hne : b ≠ g := fun e => hn (e ▸ hwr)
  simp only [World.setRow, Array.getElem?_modify]
  rw [if_neg (by omega)]

theorem splice_rel {cells : List AV} {cs : List Value} (hr : ∀ (k : Nat) (x : AV) (v : Value), cells[k]? = some x → cs[k]? = some v → AR C x v) {ys : List AV} {vs : List Value} (hy : RelL (AR C) ys vs) {o : Nat} (ho : o ≤ cells.length) (hlen : cells.length ≤ cs.length) (hfit : o + ys.length ≤ cs.length) :
    ∀ (k : Nat) (x : AV) (v : Value), (cells.take o ++ ys ++ cells.drop (o + ys.length))[k]? = some x → (cs.take o ++ vs ++ cs.drop (o + vs.length))[k]? = some v → AR C x v := by
  intro k x v hx hv
  have hl := hy.1
  rw [List.append_assoc] at hx hv
  rw [List.getElem?_append] at hx hv
  have e1 : (cells.take o).length = o := by simp; omega
  have e2 : (cs.take o).length = o := by simp; omega
  rw [e1] at hx; rw [e2] at hv
  by_cases hk : k < o
  · rw [if_pos hk] at hx hv
    rw [List.getElem?_take, if_pos hk] at hx hv
    exact hr k x v hx hv
  · rw [if_neg hk] at hx hv
    rw [List.getElem?_append] at hx hv
    by_cases hk2 : k - o < ys.length
    · rw [if_pos hk2] at hx
      rw [if_pos (by omega)] at hv
      exact hy.2 _ x v hx hv
    · rw [if_neg hk2, List.getElem?_drop] at hx
      rw [if_neg (by omega), List.getElem?_drop] at hv
      rw [← hl] at hv
      exact hr _ x v hx hv

theorem ok_st (h : HR C hf wr w) {t : TypeId} {z : Nat} (hz : sizeT P t = some z) {n ver o : Nat} {x : Value} (hx : AR C (.p n ver o) x) {ob : AObj} (hn : hf n = some ob) (hver : ob.ver = ver) (hlen : o + z ≤ ob.cells.length)
    {vy : AV} {y : Value} (hy : AR C vy y) (hk : vy.okc = true) (hl : vy.cells.length = z) :
    OpOk P C hf wr base nm (do Instr.storeAt t x y; pure .skip) w (.v (.tup [])) [(n, some ⟨ob.ver, ob.cells.take o ++ vy.cells ++ ob.cells.drop (o + z), ob.gr, ob.el⟩)] := by
  have e := inv_p hx h hn hver; subst e
  obtain ⟨vs, hvs, hr, h1⟩ := hy.cells hk
  obtain ⟨cs, el, g1, g2, g3, g4, g5⟩ := h.obj n ob hn
  have hvl : vs.length = z := by rw [← hr.1, hl]
  have hst := run_storeCells_at P (C.mu n) o el vs 0 cs w g1 (by omega) h1
  simp only [Nat.add_zero] at hst
  have hcur := (h.live n ob hn).2
  let cs' : Array Value := (cs.toList.take o ++ vs ++ cs.toList.drop (o + vs.length)).toArray
  have hsz : cs'.size = cs.size := by simp [cs']; omega
  refine ⟨undef, w.setRow (C.mu n) cs', C.bump nm n ob.ver, .inr ⟨?_, rfl⟩, ?_, ?_, Cx.le_bump nm hcur (Nat.le_refl _), fun _ => Iff.rfl, Wf.setRow _ (h.wr n ob hn), fun _ _ => rfl, .one (.inr (.inl ⟨_, hn, rfl⟩)) fun _ _ => rfl⟩
  · have hvsz : y.cells.size = z := by rw [hvs]; simpa using hvl
    simp only [Instr.storeAt, Instr.sureAddr, storeVar, Sem.run_bind, Sem.run_pure, Result.andThen, sizeT_run hz, hvsz]
    simp only [ne_eq, not_true_eq_false, if_false, Sem.run_pure, Result.andThen]
    have : y.cells.toList = vs := by rw [hvs]
    rw [this, hst]
  · exact .v (.tup [] [] rfl (fun k x v hx => by simp at hx))
  · rw [updF_one]
    obtain ⟨k1, k2⟩ := setRow_heap (cs' := cs') g1
    refine h.write nm hn (Nat.le_refl _) _ ob.gr cs' el ob.el (.inr rfl) ⟨_, g1⟩ k1 (by rw [hsz, g2]) ?_ ?_ (fun b _ hb => k2 b hb) ?_
    · simp [cs', hl]; omega
    · intro hg; have := g4 hg; simp [cs', hl]; omega
    · intro k x v hx hv
      have hv' : (cs.toList.take o ++ vs ++ cs.toList.drop (o + vs.length))[k]? = some v := by simpa [cs'] using hv
      have hsp := splice_rel (C := C) (cells := ob.cells) (cs := cs.toList) (fun k x v hx hv => g5 k x v hx (by simpa using hv)) hr (o := o) (by omega) (by simpa using g3) (by simp; omega)
      exact hsp k x v (by rw [hl]; exact hx) hv'

end
end Go.Dom

/-
  THE ABSTRACT OPERATIONS ARE RIGHT, SEVENTH PART: composite literals, make. Own work; generic over the program.
-/
set_option linter.all false
namespace Go.Dom
open Go.RowKit

theorem set_cells (off : Nat) (vs : List Value) : ∀ (k : Nat) (cs : Array Value), off + k + vs.length ≤ cs.size →
    (vs.zipIdx k).foldl (fun (cs : Array Value) (p : Value × Nat) => cs.setIfInBounds (off + p.2) p.1) cs = (cs.toList.take (off + k) ++ vs ++ cs.toList.drop (off + k + vs.length)).toArray := by
  induction vs with
  | nil => intro k cs h; simp
  | cons v vs ih =>
    intro k cs h
    simp only [List.length_cons] at h
    rw [List.zipIdx_cons, List.foldl_cons, ih (k + 1) _ (by simp; omega)]
    apply Array.ext'
    have hlt : off + k < cs.toList.length := by simp; omega
    simp only [Array.toList_setIfInBounds]
    have e1 : (cs.toList.set (off + k) v).take (off + (k + 1)) = cs.toList.take (off + k) ++ [v] := by
      rw [← Nat.add_assoc, List.take_succ_eq_append_getElem (by simpa using hlt)]
      simp [List.take_set_of_le]
    have e2 : (cs.toList.set (off + k) v).drop (off + (k + 1) + vs.length) = cs.toList.drop (off + k + (v :: vs).length) := by
      rw [List.drop_set_of_lt (by omega)]
      congr 1
      simp only [List.length_cons]; omega
    rw [e1, e2]
    simp

theorem set_cells_arr (off : Nat) (vs : List Value) (cs : Array Value) (h : off + vs.length ≤ cs.size) :
    (vs.toArray.zipIdx).foldl (fun (cs : Array Value) (p : Value × Nat) => cs.setIfInBounds (off + p.2) p.1) cs = (cs.toList.take off ++ vs ++ cs.toList.drop (off + vs.length)).toArray := by
  have := set_cells off vs 0 cs (by simpa using h)
  simpa using this

section
variable {P : Program} {C : Cx} {hf : Nat → Option AObj} {wr : Nat → Prop} {base nm : Nat} {w : World} {tf : Nat → AV}

theorem fill_ok (place : Nat → Option (Nat × Nat)) : ∀ (ps : List (Nat × Value)) (qs : List (Nat × Nat × AV)) (cells : List AV) (cs : Array Value), RelL (AR C) cells cs.toList → ps.length = qs.length →
    (∀ (k : Nat) (p : Nat × Value) (q : Nat × Nat × AV), ps[k]? = some p → qs[k]? = some q → place p.1 = some (q.1, q.2.1) ∧ AR C q.2.2 p.2) →
    ∀ (cells' : List AV) (pr : Prop), fillA cells qs = some (cells', pr) → pr → ∃ cs', Instr.fill place cs ps = some cs' ∧ RelL (AR C) cells' cs'.toList := by
  intro ps
  induction ps with
  | nil =>
    intro qs cells cs hr hl _ cells' pr hf hp
    have : qs = [] := List.eq_nil_of_length_eq_zero (by simpa using hl.symm)
    subst this
    simp only [fillA, Option.some.injEq, Prod.mk.injEq] at hf
    obtain ⟨rfl, -⟩ := hf
    exact ⟨cs, rfl, hr⟩
  | cons p ps ih =>
    intro qs cells cs hr hl hpq cells' pr hf hp
    cases qs with
    | nil => simp at hl
    | cons q qs =>
      obtain ⟨o, z, v⟩ := q
      obtain ⟨i, x⟩ := p
      simp only [fillA] at hf
      cases hf2 : fillA (cells.take o ++ v.cells ++ cells.drop (o + z)) qs with
      | none => rw [hf2] at hf; cases hf
      | some cp =>
        obtain ⟨c2, p2⟩ := cp
        simp only [hf2, Option.some.injEq, Prod.mk.injEq] at hf
        obtain ⟨rfl, rfl⟩ := hf
        obtain ⟨⟨hk, hvl, hfit⟩, hp2⟩ := hp
        obtain ⟨hpl, hav⟩ := hpq 0 _ _ rfl rfl
        obtain ⟨vs, hvs, hrv, -⟩ := hav.cells hk
        have hlen : cells.length = cs.size := by simpa using hr.1
        have hvl2 : vs.length = z := by rw [← hrv.1, hvl]
        have hset := set_cells_arr o vs cs (by omega)
        have hr2 : RelL (AR C) (cells.take o ++ v.cells ++ cells.drop (o + z)) (cs.toList.take o ++ vs ++ cs.toList.drop (o + vs.length)) := by
          rw [hvl2]
          exact ((hr.take o).append hrv).append (hr.drop (o + z))
        obtain ⟨cs', h1, h2⟩ := ih qs _ ((cs.toList.take o ++ vs ++ cs.toList.drop (o + vs.length)).toArray) (by simpa using hr2) (by simpa using hl)
          (fun k p q hp hq => hpq (k + 1) p q (by simpa using hp) (by simpa using hq)) _ _ hf2 hp2
        refine ⟨cs', ?_, h2⟩
        simp only at hpl
        have hsz : x.cells.size = z := by rw [hvs]; simpa using hvl2
        simp only [Instr.fill, hpl, hsz]
        rw [if_neg (by simp; omega)]
        rw [hvs, hset]
        exact h1

theorem run_mapM_fields (fs : List Field) (hfs : fs.all (fun f => (sizeT P f.type).isSome) = true) (w : World) :
    (fs.mapM (fun f => do pure (f.offset, ← sizeOf f.type) : Field → Sem (Nat × Nat))).run P w = .ok (fs.map fun f => (f.offset, (sizeT P f.type).getD 0)) w := by
  induction fs with
  | nil => simp
  | cons f fs ih =>
    simp only [List.all_cons, Bool.and_eq_true] at hfs
    obtain ⟨h1, h2⟩ := hfs
    obtain ⟨z, hz⟩ := Option.isSome_iff_exists.1 h1
    rw [List.mapM_cons]
    simp only [Sem.run_bind, sizeT_run hz, Result.andThen, Sem.run_pure, ih h2, List.map_cons, hz, Option.getD_some]

theorem mapO_get {α β : Type} {g : α → Option β} {l : List α} {ys : List β} (h : mapO g l = some ys) {k : Nat} {x : α} (hx : l[k]? = some x) : ∃ y, ys[k]? = some y ∧ g x = some y := by
  obtain ⟨h1, h2⟩ := mapO_some h
  have hk : k < ys.length := by have := (List.getElem?_eq_some_iff.1 hx).1; omega
  exact ⟨ys[k], by simp [hk], h2 k x _ hx (by simp [hk])⟩

theorem ok_build_struct [Tabs P] (h : HR C hf wr w) {t : TypeId} {fs : Array Field} (ht : P.underlying t = some (.struct fs)) (hfs : fs.toList.all (fun f => (sizeT P f.type).isSome) = true) {z : List AV} (hz : zeroC P t = some z) {a : Act} {ps : Array (Nat × Operand)} {qs : List (Nat × Nat × SX)} (hqs : partsS P fs ps = some qs)
    (hta : TM P C tf a) {cs : List AV} {p : Prop} (hfill : fillA z (qs.map fun (a, b, x) => (a, b, x.ev tf)) = some (cs, p)) (hp : p) :
    OpOk P C hf wr base nm (vS (Instr.build t (ps.map fun (i, x) => (i, a.eval x)))) w (mkAgg cs) [] := by
  obtain ⟨v, hv, hr, -⟩ := zeroC_run (C := C) hz
  obtain ⟨hl, hq⟩ := mapO_some hqs
  obtain ⟨cs', h1, h2⟩ := fill_ok (C := C) (fun i => (fs.toList.map fun f => (f.offset, (sizeT P f.type).getD 0)).toArray[i]?) (ps.map fun (i, x) => (i, a.eval x)).toList (qs.map fun (a, b, x) => (a, b, x.ev tf)) z v.cells hr (by simp [hl])
    (by
      intro k p q hp hq'
      simp only [Array.toList_map, List.getElem?_map, Option.map_eq_some_iff] at hp hq'
      obtain ⟨⟨i, x⟩, hx, rfl⟩ := hp
      obtain ⟨⟨o, z, y⟩, hy, rfl⟩ := hq'
      have := hq k _ _ hx hy
      simp only [Option.bind_eq_bind, Option.bind_eq_some_iff] at this
      obtain ⟨f, hf', z', hz', y', hy', he⟩ := this
      simp only [Option.some.injEq, Prod.mk.injEq] at he
      obtain ⟨rfl, rfl, rfl⟩ := he
      refine ⟨?_, sx_ok hy' hta⟩
      have hf2 : fs.toList[i]? = some f := by simpa using hf'
      simp [hf2, hz']) _ _ hfill hp
  have hrun := run_mapM_fields (P := P) fs.toList hfs w
  refine .val h (val := .agg cs') ?_ ?_
  · simp only [Instr.build, Sem.run_bind, hv, Result.andThen, run_underlying ht, Array.mapM_eq_mapM_toList, Sem.run_map, hrun, h1, Sem.run_pure]
  · have := AR.mkAgg (C := C) h2
    simpa using this

theorem ok_build_array [Tabs P] (h : HR C hf wr w) {t e : TypeId} {cnt : Nat} (ht : P.underlying t = some (.array cnt e)) {sz : Nat} (hsz : sizeT P e = some sz) {z : List AV} (hz : zeroC P t = some z) {a : Act} {ps : Array (Nat × Operand)} {qs : List (Nat × Nat × SX)} (hqs : partsA P sz ps = some qs)
    (hta : TM P C tf a) {cs : List AV} {p : Prop} (hfill : fillA z (qs.map fun (a, b, x) => (a, b, x.ev tf)) = some (cs, p)) (hp : p) :
    OpOk P C hf wr base nm (vS (Instr.build t (ps.map fun (i, x) => (i, a.eval x)))) w (mkAgg cs) [] := by
  obtain ⟨v, hv, hr, -⟩ := zeroC_run (C := C) hz
  obtain ⟨hl, hq⟩ := mapO_some hqs
  obtain ⟨cs', h1, h2⟩ := fill_ok (C := C) (fun i => some (i * sz, sz)) (ps.map fun (i, x) => (i, a.eval x)).toList (qs.map fun (a, b, x) => (a, b, x.ev tf)) z v.cells hr (by simp [hl])
    (by
      intro k p q hp hq'
      simp only [Array.toList_map, List.getElem?_map, Option.map_eq_some_iff] at hp hq'
      obtain ⟨⟨i, x⟩, hx, rfl⟩ := hp
      obtain ⟨⟨o, z, y⟩, hy, rfl⟩ := hq'
      have := hq k _ _ hx hy
      simp only [Option.bind_eq_bind, Option.bind_eq_some_iff] at this
      obtain ⟨y', hy', he⟩ := this
      simp only [Option.some.injEq, Prod.mk.injEq] at he
      obtain ⟨rfl, rfl, rfl⟩ := he
      exact ⟨rfl, sx_ok hy' hta⟩) _ _ hfill hp
  refine .val h (val := .agg cs') ?_ ?_
  · simp only [Instr.build, Sem.run_bind, hv, Result.andThen, run_underlying ht, sizeT_run hsz, h1, Sem.run_pure]
  · have := AR.mkAgg (C := C) h2
    simpa using this

theorem flat_rep {α : Type} (z : List α) (n k : Nat) (h : k < n * z.length) : (List.replicate n z).flatten[k]? = z[k % z.length]? := by
  induction n generalizing k with
  | zero => simp at h
  | succ n ih =>
    rw [List.replicate_succ, List.flatten_cons, List.getElem?_append]
    by_cases hk : k < z.length
    · rw [if_pos hk, Nat.mod_eq_of_lt hk]
    · rw [if_neg hk, ih (k - z.length) (by rw [Nat.succ_mul] at h; omega)]
      rw [← Nat.mod_eq_sub_mod (by omega)]

theorem ok_mks (h : HR C hf wr w) (hnm : ¬ C.al nm) (hwr : ∀ b, base ≤ b → wr b) (hbase : base ≤ w.heap.size) {t e : TypeId} (ht : P.underlying t = some (.slice e)) {i : TypeInfo} (hi : P.info? e = some i) {z : List AV} (hz : zeroC P e = some z) (hpos : 0 < i.size) {kl kc : IntKind} {l c : Int} {x y : Value}
    (hx : AR C (.v (.i kl l)) x) (hy : AR C (.v (.i kc c)) y) (h0 : 0 ≤ l) (hlc : l ≤ c) (hby : (i.bytes : Int) * c ≤ 140737488355328) (hc : c ≤ 140737488355328) :
    OpOk P C hf wr base nm (vS (Instr.makeSlice t x y)) w (.rs nm 0 0 l.toNat z.length) [(nm, some ⟨0, (List.replicate c.toNat z).flatten, false, none⟩)] := by
  have e1 := inv_i hx; subst e1
  have e1 := inv_i hy; subst e1
  have hz' := hz
  unfold zeroC at hz'
  simp only [Option.bind_eq_bind, Option.bind_eq_some_iff] at hz'
  obtain ⟨i', hi', v, hv, hz'⟩ := hz'
  rw [hi] at hi'; injection hi' with hi'; subst hi'
  split at hz'
  · rename_i hsz
    obtain ⟨m1, m2⟩ := mapO_some hz'
    have hzl : z.length = i.size := by rw [← m1, ← hsz]; simp
    have hrun := run_make (P := P) w t e i v ht hi hv kl kc l c h0 hlc (by omega) (by omega)
    have hsz2 : (madeCells v.cells (c.toNat * i.size)).size = c.toNat * i.size := size_madeCells _ _
    have hfl : ((List.replicate c.toNat z).flatten).length = c.toNat * i.size := by simp [hzl]
    refine ok_new h hnm hwr hbase (.inl rfl) (vs := madeCells v.cells (c.toNat * i.size)) (el := e) (val := .slice (some ⟨w.heap.size, 0, none⟩) l.toNat c.toNat) (.inl (by simp only [vS, Sem.run_bind, hrun, Result.andThen, Sem.run_pure])) (by omega) (fun _ => by omega) ?_ ?_
    · intro k x u hx hu
      have hk : k < c.toNat * z.length := by have := (List.getElem?_eq_some_iff.1 hx).1; rw [hzl]; omega
      rw [flat_rep z _ _ hk] at hx
      have hu' : u = v.cells[k % v.cells.size]! := by
        have hlt : k < (madeCells v.cells (c.toNat * i.size)).size := by rw [hsz2]; rw [hzl] at hk; exact hk
        rw [Array.getElem?_eq_getElem hlt] at hu
        injection hu with hu
        rw [← hu]
        simp [madeCells]
      have hm : k % z.length < v.cells.size := by rw [hzl, hsz]; exact Nat.mod_lt _ hpos
      have hu2 : v.cells.toList[k % z.length]? = some u := by
        rw [hu', hsz, ← hzl]
        have : v.cells[k % z.length]! = v.cells[k % z.length] := by rw [getElem!_pos]
        rw [this]
        simp [hm]
      exact cvC_ok (m2 _ _ _ hu2 hx)
    · refine .rs nm 0 0 l.toNat z.length _ 0 c.toNat (.inr rfl) (by omega) (.inr rfl) fun cc hcc => ?_
      simp only [Cx.newObj, if_true] at hcc ⊢
      refine ⟨Nat.zero_le _, fun _ => ⟨trivial, ?_⟩⟩
      rw [hsz2, hzl]; omega
  · cases hz'

end
end Go.Dom

/-
  THE ABSTRACT OPERATIONS ARE RIGHT, EIGHTH PART: append, copy, slice literals. Own work; generic over the program.
-/
set_option linter.all false
namespace Go.Dom
open Go.RowKit

section
variable {P : Program} {C : Cx} {hf : Nat → Option AObj} {wr : Nat → Prop} {base nm : Nat} {w : World} {tf : Nat → AV}

/-- The source of an append or a copy: its length and its cells, in any world with this heap. -/
theorem src_ok (h : HR C hf wr w) {z : Nat} {vy : AV} {y : Value} (hy : AR C vy y) {ys : List AV} {k : Nat} {p : Prop} {r : List Nat} (hs : srcOf hf z vy = some (ys, k, p, r)) (hp : p) :
    ∃ news : List Value, (∀ w', (Builtin.lenOf y).run P w' = .ok k w') ∧ (∀ w' m, w'.heap = w.heap → m ≤ k → (Builtin.firstCells z m y).run P w' = .ok (news.take (m * z)).toArray w') ∧ RelL (AR C) ys news ∧ ys.length = k * z := by
  have pure : ∀ (l : List PV) (q : Option Addr) (len cap : Nat), PR C.rd (.sl l) (.slice q len cap) → (∀ x ∈ l, x.cells.length = z) →
      ∃ news : List Value, (∀ w', (Builtin.lenOf (.slice q len cap)).run P w' = .ok l.length w') ∧ (∀ w' m, w'.heap = w.heap → m ≤ l.length → (Builtin.firstCells z m (.slice q len cap)).run P w' = .ok (news.take (m * z)).toArray w') ∧ RelL (AR C) ((l.flatMap PV.cells).map .v) news ∧ ((l.flatMap PV.cells).map AV.v).length = l.length * z := by
    intro l q len cap hpr hz
    have hfl := flat_len hz
    cases hpr with
    | sl0 => exact ⟨[], by simp [Builtin.lenOf], fun w' m _ hm => by simp [Builtin.firstCells], .nil, by simp⟩
    | sle a cap => exact ⟨[], by simp [Builtin.lenOf], fun w' m _ hm => by
        have : m = 0 := by simpa using hm
        subst this; simp [Builtin.firstCells, loadCells, loadCellsFrom], .nil, by simp⟩
    | sl l z' vs bk of cap hc hz' h1 hl hr hrel =>
      have hrl : RelL (PR C.rd) (l.flatMap PV.cells) vs := ⟨hl, hrel⟩
      refine ⟨vs, by simp [Builtin.lenOf], fun w' m hw hm => ?_, hrl.mapL _ fun x v hx => .v hx, by simpa using hfl⟩
      have hw' : HR C hf wr w' := h.world fun b _ => by rw [hw]
      have hmz : m * z ≤ vs.length := by rw [← hl, hfl]; exact Nat.mul_le_mul_right _ hm
      have hld := run_loadPure (P := P) hw' vs hr 0 (m * z) (by omega)
      simpa [Builtin.firstCells] using hld
  unfold srcOf at hs
  split at hs
  · -- a string
    rename_i x
    simp only [Option.some.injEq, Prod.mk.injEq] at hs
    obtain ⟨rfl, rfl, rfl, rfl⟩ := hs
    have e := inv_s hy; subst e
    subst hp
    have es : (ByteArray.mk x.toArray).size = x.length := by simp [ByteArray.size]
    refine ⟨x.map fun c => .int .u8 c.toNat, fun w' => by simp [Builtin.lenOf, es], fun w' m _ hm => ?_, ?_, by simp⟩
    · simp only [Builtin.firstCells, Sem.run_pure, Nat.mul_one]
      congr 1
      apply Array.ext'
      simp [List.map_take]
    · refine ⟨by simp, fun j a v ha hv => ?_⟩
      simp only [List.getElem?_map, Option.map_eq_some_iff] at ha hv
      obtain ⟨c, hc, rfl⟩ := ha
      obtain ⟨d, hd, rfl⟩ := hv
      rw [hc] at hd; injection hd with hd; subst hd
      exact .v (.i _ _)
  · rename_i l
    simp only [Option.some.injEq, Prod.mk.injEq] at hs
    obtain ⟨rfl, rfl, rfl, rfl⟩ := hs
    cases hy with
    | v hy =>
      have hy' := hy
      cases hy with
      | sl0 => exact pure _ _ _ _ hy' hp
      | sl => exact pure _ _ _ _ hy' hp
      | sle => exact pure _ _ _ _ hy' hp
  · rename_i l
    simp only [Option.some.injEq, Prod.mk.injEq] at hs
    obtain ⟨rfl, rfl, rfl, rfl⟩ := hs
    cases hy with
    | fs l a hy => exact pure _ _ _ _ hy hp
  · simp only [Option.some.injEq, Prod.mk.injEq] at hs
    obtain ⟨rfl, rfl, rfl, rfl⟩ := hs
    cases hy
    exact ⟨[], by simp [Builtin.lenOf], fun w' m _ hm => by simp [Builtin.firstCells], .nil, by simp⟩
  · rename_i n ver o len z'
    split at hs
    · rename_i ob hn
      simp only [Option.some.injEq, Prod.mk.injEq] at hs
      obtain ⟨rfl, rfl, rfl, rfl⟩ := hs
      obtain ⟨hv, rfl, hlen⟩ := hp
      cases hy with
      | rs _ _ _ _ _ b o' cap hal hc ho hy =>
        have hcur := (h.live n ob hn).2
        obtain ⟨-, h2⟩ := hy _ hcur
        obtain ⟨rfl, -⟩ := h2 hv.symm
        have hlen2 : ((ob.cells.drop o).take (len * z')).length = len * z' := by simp; omega
        obtain ⟨cs, el, g1, g2, g3, g4, g5⟩ := h.obj n ob hn
        have hr : RelL (AR C) ob.cells (cs.toList.take ob.cells.length) := by
          refine ⟨by simp; omega, fun k x v hx hv => g5 k x v hx ?_⟩
          rw [List.getElem?_take] at hv
          split at hv
          · simpa using hv
          · cases hv
        refine ⟨((cs.toList.take ob.cells.length).drop o).take (len * z'), by simp [Builtin.lenOf], fun w' m hw hm => ?_, (hr.drop o).take _, hlen2⟩
        have hmz : m * z' ≤ len * z' := Nat.mul_le_mul_right _ hm
        rcases ho with ho | ho
        · have : m = 0 := by omega
          subst this
          simp [Builtin.firstCells, loadCells, loadCellsFrom]
        · subst ho
          have hl3 : ((((cs.toList.take ob.cells.length).drop o').take (len * z')).take (m * z')).length = m * z' := by simp; omega
          have := run_loadCells_list (P := P) w' ⟨C.mu n, o', none⟩ ((((cs.toList.take ob.cells.length).drop o').take (len * z')).take (m * z')) (by
            intro j v hv
            have g1' : w'.heap[C.mu n]? = some (.cells cs el (0, 0)) := by rw [hw]; exact g1
            rw [add_none, cell_of_heap g1']
            rw [List.getElem?_take] at hv
            split at hv
            · rw [List.getElem?_take] at hv
              split at hv
              · rw [List.getElem?_drop, List.getElem?_take] at hv
                split at hv
                · simpa using hv
                · cases hv
              · cases hv
            · cases hv)
          rw [hl3] at this
          simpa [Builtin.firstCells] using this
    · cases hs
  · cases hs

/-- append, when there is room. -/
theorem run_app_room {t u ty e : TypeId} {i : TypeInfo} (ht : P.underlying t = some (.slice e)) (hi : P.info? e = some i) (hu : P.underlying u = some .string ∨ ∃ e', P.underlying u = some (.slice e')) {y : Value} {k : Nat} {news : List Value}
    (hlen : ∀ w', (Builtin.lenOf y).run P w' = .ok k w') (hfc : ∀ w' m, w'.heap = w.heap → m ≤ k → (Builtin.firstCells i.size m y).run P w' = .ok (news.take (m * i.size)).toArray w') (hnl : news.length = k * i.size) (h1 : ∀ v ∈ news, v.oneCell' = true)
    {g sLen sCap : Nat} {cur : Array Value} {el : TypeId} (hg : w.heap[g]? = some (.cells cur el (0, 0))) (hroom : sLen + k ≤ sCap) (hfit : sLen * i.size + news.length ≤ cur.size) :
    (Builtin.append_ #[t, u] ty #[.slice (some ⟨g, 0, none⟩) sLen sCap, y]).run P w =
      .ok (.slice (some ⟨g, 0, none⟩) (sLen + k) sCap) (w.setRow g (cur.toList.take (sLen * i.size) ++ news ++ cur.toList.drop (sLen * i.size + news.length)).toArray) := by
  have hf := hfc w k rfl (Nat.le_refl _)
  rw [List.take_of_length_le (by omega)] at hf
  have hst := run_storeCells_at P g (sLen * i.size) el news 0 cur w hg (by simpa using hfit) h1
  simp only [Nat.add_zero] at hst
  have hz : (match (#[t, u])[1]? with | some xType => (do pure ((← underlying xType) matches .int _) : Sem Bool) | none => pure false).run P w = .ok false w := by
    rcases hu with hu | ⟨e', hu⟩ <;> simp [run_underlying hu]
  rcases hu with hu | ⟨e', hu⟩ <;> simp [Builtin.append_, run_underlying ht, run_underlying hu, sizeOf, typeInfo, hi, hlen, hroom, hf, add_none, hst]

/-- append into a new block. -/
theorem run_app_grow {t u ty e : TypeId} {i : TypeInfo} {z : Value} (ht : P.underlying t = some (.slice e)) (hi : P.info? e = some i) (hz : i.zero = some z) (hu : P.underlying u = some .string ∨ ∃ e', P.underlying u = some (.slice e')) {y : Value} {k : Nat} {news olds : List Value}
    (hlen : ∀ w', (Builtin.lenOf y).run P w' = .ok k w') (hfc : ∀ w' m, w'.heap = w.heap → m ≤ k → (Builtin.firstCells i.size m y).run P w' = .ok (news.take (m * i.size)).toArray w') (hnl : news.length = k * i.size)
    {q : Option Addr} {sLen sCap : Nat} (hold : ∀ w', w'.heap = w.heap → (Builtin.firstCells i.size sLen (.slice q sLen sCap)).run P w' = .ok olds.toArray w') (hg : sCap < sLen + k) (h63 : sLen + k ≤ 140737488355328) (hfit : (sLen + k) * i.bytes ≤ 140737488355328) :
    (Builtin.append_ #[t, u] ty #[.slice q sLen sCap, y]).run P w =
      .ok (.slice (some ⟨w.heap.size, 0, none⟩) (sLen + k) (grownCap w (sLen + k) sCap e)) (w.drew.alloc (.cells (olds.toArray ++ news.toArray ++ Builtin.zeroCells z.cells (grownCap w (sLen + k) sCap e - (sLen + k))) e)) := by
  have hf := hfc w.drew k rfl (Nat.le_refl _)
  rw [List.take_of_length_le (by omega)] at hf
  have ho := hold w.drew rfl
  have hn : ¬ (sLen + k ≤ sCap) := by omega
  have h63' : ¬ (9223372036854775807 < ((sLen : Int) + (k : Int))) := by omega
  have h48 := growslice_fits hg hfit
  have h48' : ¬ (281474976710656 < Builtin.nextslicecap (sLen + k) sCap * i.bytes) := by omega
  rcases hu with hu | ⟨e', hu⟩
  all_goals
    simp [Builtin.append_, run_underlying ht, run_underlying hu, sizeOf, typeInfo, zeroValue, hi, hz, hlen, hn, h63', h48', Question.forced, hf, ho, newRow, grownCap]
    congr 2
    apply Array.ext'
    simp [List.append_assoc]


theorem grownCap_size (need old : Nat) (e : TypeId) : need ≤ grownCap w need old e := grownCap_ge w need old e

theorem grown_size (olds news : List Value) (z : Value) {sz len k cap : Nat} (ho : olds.length = len * sz) (hn : news.length = k * sz) (hz : z.cells.size = sz) (hc : len + k ≤ cap) :
    (olds.toArray ++ news.toArray ++ Builtin.zeroCells z.cells (cap - (len + k))).size = cap * sz := by
  rw [Array.size_append, Array.size_append, size_zeroCells, hz]
  simp only [List.size_toArray, ho, hn]
  rw [← Nat.add_mul, ← Nat.add_mul]
  congr 1; omega

theorem news_one {ys : List AV} {news : List Value} (hr : RelL (AR C) ys news) (h1 : ∀ y ∈ ys, y.one = true) : ∀ v ∈ news, v.oneCell' = true := by
  intro v hv
  obtain ⟨k, hk, rfl⟩ := List.getElem_of_mem hv
  have hk' : k < ys.length := by have := hr.1; omega
  exact (hr.2 k ys[k] news[k] (by simp [hk']) (by simp [hk])).oneCell (h1 _ (List.getElem_mem hk'))

theorem app_cells {cells ys : List AV} {olds news : List Value} {rest : Array Value} (hr : RelL (AR C) cells olds) (hy : RelL (AR C) ys news) :
    ∀ (k : Nat) (x : AV) (v : Value), (cells ++ ys)[k]? = some x → (olds.toArray ++ news.toArray ++ rest)[k]? = some v → AR C x v := by
  intro k x v hx hv
  have hr2 := hr.append hy
  have hk : k < (cells ++ ys).length := (List.getElem?_eq_some_iff.1 hx).1
  rw [Array.getElem?_append_left (by simp [← hr.1, ← hy.1]; simpa using hk)] at hv
  exact hr2.2 k x v hx (by simpa using hv)

/-- append to nothing, or to a slice that is full: into a new block. -/
theorem ok_app_new (h : HR C hf wr w) (hnm : ¬ C.al nm) (hwr : ∀ b, base ≤ b → wr b) (hbase : base ≤ w.heap.size) {t u ty e : TypeId} {i : TypeInfo} {z : Value} (ht : P.underlying t = some (.slice e)) (hi : P.info? e = some i) (hz : i.zero = some z) (hzs : z.cells.size = i.size)
    (hu : P.underlying u = some .string ∨ ∃ e', P.underlying u = some (.slice e')) {vy : AV} {y : Value} (hy : AR C vy y) {ys : List AV} {k : Nat} {p : Prop} {r : List Nat} (hs : srcOf hf i.size vy = some (ys, k, p, r)) (hp : p)
    {q : Option Addr} {len : Nat} {cells : List AV} {olds : List Value} (hold : ∀ w', w'.heap = w.heap → (Builtin.firstCells i.size len (.slice q len len)).run P w' = .ok olds.toArray w') (hr : RelL (AR C) cells olds) (hcl : cells.length = len * i.size)
    (hk : k ≠ 0) (hby : (len + k) * i.bytes ≤ 140737488355328) (hc : len + k ≤ 140737488355328) :
    OpOk P C hf wr base nm (vS (Builtin.append_ #[t, u] ty #[.slice q len len, y])) w (.rs nm 0 0 (len + k) i.size) [(nm, some ⟨0, cells ++ ys, true, some e⟩)] := by
  obtain ⟨news, hlen, hfc, hry, hyl⟩ := src_ok (P := P) h hy hs hp
  have hrun := run_app_grow (P := P) (w := w) (ty := ty) ht hi hz hu hlen hfc (by rw [← hry.1, hyl]) hold (by omega) hc hby
  have hge := grownCap_size (w := w) (len + k) len e
  have hsz := grown_size olds news z (by rw [← hr.1, hcl]) (by rw [← hry.1, hyl]) hzs hge
  refine ok_new h hnm hwr hbase (.inr rfl) (vs := olds.toArray ++ news.toArray ++ Builtin.zeroCells z.cells (grownCap w (len + k) len e - (len + k))) (el := e) (val := .slice (some ⟨w.heap.size, 0, none⟩) (len + k) (grownCap w (len + k) len e)) (.inr (by simp only [vS, Sem.run_bind, hrun, Result.andThen, Sem.run_pure])) ?_ (by simp) (app_cells hr hry) ?_
  · rw [hsz, List.length_append, hcl, hyl, ← Nat.add_mul]; exact Nat.mul_le_mul_right _ hge
  · refine .rs nm 0 0 (len + k) i.size _ 0 _ (.inr rfl) hge (.inr rfl) fun cc hcc => ?_
    simp only [Cx.newObj, if_true] at hcc ⊢
    exact ⟨Nat.zero_le _, fun _ => ⟨trivial, by rw [hsz]; omega⟩⟩

/-- append to an own slice. -/
theorem ok_app_rs (h : HR C hf wr w) (hwr : ∀ b, base ≤ b → wr b) (hbase : base ≤ w.heap.size) {t u ty e : TypeId} {i : TypeInfo} {z : Value} (ht : P.underlying t = some (.slice e)) (hi : P.info? e = some i) (hz : i.zero = some z) (hzs : z.cells.size = i.size) (hpos : 0 < i.size)
    (hu : P.underlying u = some .string ∨ ∃ e', P.underlying u = some (.slice e')) {vy : AV} {y : Value} (hy : AR C vy y) {ys : List AV} {k : Nat} {p : Prop} {r : List Nat} (hs : srcOf hf i.size vy = some (ys, k, p, r)) (hp : p) (h1 : ∀ y ∈ ys, y.one = true)
    {n ver len : Nat} {x : Value} (hx : AR C (.rs n ver 0 len i.size) x) {ob : AObj} (hn : hf n = some ob) (hver : ob.ver = ver) (hlen' : len * i.size ≤ ob.cells.length) (hby : (len + k) * i.bytes ≤ 140737488355328) (hc : len + k ≤ 140737488355328) :
    OpOk P C hf wr base nm (vS (Builtin.append_ #[t, u] ty #[x, y])) w (.rs n (ver + 1) 0 (len + k) i.size) [(n, some ⟨ver + 1, ob.cells.take (len * i.size) ++ ys, true, if ob.el = some e then some e else none⟩)] := by
  obtain ⟨news, hlen, hfc, hry, hyl⟩ := src_ok (P := P) h hy hs hp
  have hnews := news_one hry h1
  have hcur := (h.live n ob hn).2
  have hal := (h.live n ob hn).1
  obtain ⟨cs, el, g1, g2, g3, g4, g5⟩ := h.obj n ob hn
  subst hver
  cases hx with
  | rs _ _ _ _ _ b o' cap _ hcap ho hx =>
    obtain ⟨-, hx2⟩ := hx _ hcur
    obtain ⟨rfl, hsz⟩ := hx2 rfl
    have hrc : RelL (AR C) (ob.cells.take (len * i.size)) (cs.toList.take (len * i.size)) := by
      refine ⟨by simp; omega, fun j a v ha hv => ?_⟩
      rw [List.getElem?_take] at ha hv
      split at ha
      · rename_i hj
        rw [if_pos hj] at hv
        exact g5 j a v ha (by simpa using hv)
      · cases ha
    have hnl : news.length = k * i.size := by rw [← hry.1, hyl]
    have htl : (ob.cells.take (len * i.size)).length = len * i.size := by simp; omega
    by_cases hroom : len + k ≤ cap
    · -- in place
      have hoz : cap = 0 ∨ o' = 0 := ho
      by_cases hc0 : cap = 0
      · -- nothing at all
        have hl0 : len = 0 := by omega
        have hk0 : k = 0 := by omega
        subst hl0; subst hk0; subst hc0
        have hys : ys = [] := List.eq_nil_of_length_eq_zero (by rw [hyl]; omega)
        subst hys
        have hnn : news = [] := List.eq_nil_of_length_eq_zero (by rw [hnl]; omega)
        subst hnn
        have hf0 := hfc w 0 rfl (Nat.le_refl _)
        have hrun : (Builtin.append_ #[t, u] ty #[.slice (some ⟨C.mu n, o', none⟩) 0 0, y]).run P w = .ok (.slice (some ⟨C.mu n, o', none⟩) 0 0) w := by
          rcases hu with hu | ⟨e', hu⟩ <;> simp [Builtin.append_, run_underlying ht, run_underlying hu, sizeOf, typeInfo, hi, hlen, hf0, storeCells]
        refine ⟨.slice (some ⟨C.mu n, o', none⟩) 0 0, w, C.bump nm n (ob.ver + 1), .inl (by simp only [vS, Sem.run_bind, hrun, Result.andThen, Sem.run_pure]), ?_, ?_, Cx.le_bump nm hcur (by omega), fun _ => Iff.rfl, Wf.refl _ _, fun _ _ => rfl, .one (.inr (.inl ⟨_, hn, rfl⟩)) fun _ _ => rfl⟩
        · refine .rs n _ 0 _ _ _ o' 0 (.inl hal) (by omega) (.inl rfl) fun cc hcc => ?_
          simp only [Cx.bump, if_true, Option.some.injEq] at hcc ⊢
          exact ⟨by omega, fun _ => ⟨trivial, by omega⟩⟩
        · rw [updF_one]
          exact h.write nm hn (by omega) _ true cs el _ (by split; (right; simp_all); (left; rfl)) ⟨_, g1⟩ g1 g2 (by simp) (by simp) (fun _ _ _ => rfl) (by intro j a v ha; simp at ha)
      · have : o' = 0 := by rcases hoz with h | h <;> omega
        subst this
        have hfit : len * i.size + news.length ≤ cs.size := by
          rw [hnl, ← Nat.add_mul, g2]
          have := Nat.mul_le_mul_right i.size hroom
          omega
        have hrun := run_app_room (P := P) (w := w) (ty := ty) ht hi hu hlen hfc hnl hnews g1 hroom hfit
        let cs' : Array Value := (cs.toList.take (len * i.size) ++ news ++ cs.toList.drop (len * i.size + news.length)).toArray
        have hsz' : cs'.size = cs.size := by simp [cs']; omega
        obtain ⟨k1, k2⟩ := setRow_heap (cs' := cs') g1
        refine ⟨.slice (some ⟨C.mu n, 0, none⟩) (len + k) cap, w.setRow (C.mu n) cs', C.bump nm n (ob.ver + 1), .inl (by simp only [vS, Sem.run_bind, hrun, Result.andThen, Sem.run_pure]; rfl), ?_, ?_, Cx.le_bump nm hcur (by omega), fun _ => Iff.rfl, Wf.setRow _ (h.wr n ob hn), fun _ _ => rfl, .one (.inr (.inl ⟨_, hn, rfl⟩)) fun _ _ => rfl⟩
        · refine .rs n _ 0 _ _ _ 0 cap (.inl hal) hroom (.inr rfl) fun cc hcc => ?_
          simp only [Cx.bump, if_true, Option.some.injEq] at hcc ⊢
          exact ⟨by omega, fun _ => ⟨trivial, hsz⟩⟩
        · rw [updF_one]
          refine h.write nm hn (by omega) _ true cs' el _ (by split; (right; simp_all); (left; rfl)) ⟨_, g1⟩ k1 (by rw [hsz', g2]) ?_ (by simp) (fun b _ hb => k2 b hb) ?_
          · rw [hsz', List.length_append, htl, hry.1]; exact hfit
          · intro j a v ha hv
            have hv' : (cs.toList.take (len * i.size) ++ news ++ cs.toList.drop (len * i.size + news.length))[j]? = some v := by simpa [cs'] using hv
            have hj : j < (ob.cells.take (len * i.size) ++ ys).length := (List.getElem?_eq_some_iff.1 ha).1
            have hj2 : j < (cs.toList.take (len * i.size) ++ news).length := by
              have e1 := hrc.1; have e2 := hry.1
              rw [List.length_append] at hj ⊢; omega
            rw [List.getElem?_append_left hj2] at hv'
            exact (hrc.append hry).2 j a v ha hv'
    · -- into a new block
      have hold : ∀ w', w'.heap = w.heap → (Builtin.firstCells i.size len (.slice (some ⟨C.mu n, o', none⟩) len cap)).run P w' = .ok (cs.toList.take (len * i.size)).toArray w' := by
        intro w' hw
        rcases ho with ho | ho
        · have hl0 : len = 0 := by omega
          subst hl0
          simp [Builtin.firstCells, loadCells, loadCellsFrom]
        · subst ho
          have hl3 : (cs.toList.take (len * i.size)).length = len * i.size := by simp; omega
          have := run_loadCells_list (P := P) w' ⟨C.mu n, 0, none⟩ (cs.toList.take (len * i.size)) (by
            intro j v hv
            have g1' : w'.heap[C.mu n]? = some (.cells cs el (0, 0)) := by rw [hw]; exact g1
            rw [add_none, cell_of_heap g1', Nat.zero_add]
            rw [List.getElem?_take] at hv
            split at hv
            · simpa using hv
            · cases hv)
          rw [hl3] at this
          simpa [Builtin.firstCells] using this
      have hrun := run_app_grow (P := P) (w := w) (ty := ty) ht hi hz hu hlen hfc hnl hold (by omega) hc hby
      have hge := grownCap_size (w := w) (len + k) cap e
      have hszn := grown_size (cs.toList.take (len * i.size)) news z (len := len) (by simp; omega) hnl hzs hge
      refine ⟨.slice (some ⟨w.heap.size, 0, none⟩) (len + k) (grownCap w (len + k) cap e), _, C.move w nm n (ob.ver + 1) (grownCap w (len + k) cap e * i.size), .inl (by simp only [vS, Sem.run_bind, hrun, Result.andThen, Sem.run_pure]; rfl), ?_, ?_, Cx.le_move w nm _ hcur (by omega), fun _ => Iff.rfl, (Wf.drew _ _).trans (Wf.alloc _ _ _), fun _ _ => rfl, .one (.inr (.inr (by simpa [Cx.move] using hbase))) fun k e => by simp [Cx.move, e]⟩
      · refine .rs n _ 0 _ _ _ 0 _ (.inl hal) hge (.inr rfl) fun cc hcc => ?_
        simp only [Cx.move, if_true, Option.some.injEq] at hcc ⊢
        exact ⟨by omega, fun _ => ⟨trivial, by omega⟩⟩
      · rw [updF_one]
        have := (h.world (w' := w.drew) fun _ _ => rfl).move nm hn (ver := ob.ver + 1) (by omega) (hwr _ hbase) (ob.cells.take (len * i.size) ++ ys) true ((cs.toList.take (len * i.size)).toArray ++ news.toArray ++ Builtin.zeroCells z.cells (grownCap w (len + k) cap e - (len + k))) e (if ob.el = some e then some e else none) (by split; (right; rfl); (left; rfl))
          (by rw [hszn, List.length_append, htl, hyl, ← Nat.add_mul]; exact Nat.mul_le_mul_right _ hge) (by simp) (app_cells hrc hry)
        rw [hszn] at this
        exact this

end
end Go.Dom

/-
  THE ABSTRACT OPERATIONS ARE RIGHT, NINTH PART: slice literals, copy. Own work; generic over the program.
-/
set_option linter.all false
namespace Go.Dom
open Go.RowKit

theorem fill_seq (z : Nat) : ∀ (ps : List Value) (k : Nat) (cs : Array Value), (∀ v ∈ ps, v.cells.size = z) → cs.size = (k + ps.length) * z →
    Instr.fill (fun i => some (i * z, z)) cs ((ps.zipIdx k).map fun p => (p.2, p.1)) = some (cs.toList.take (k * z) ++ ps.flatMap (fun v => v.cells.toList)).toArray := by
  intro ps
  induction ps with
  | nil =>
    intro k cs _ hs
    simp only [List.zipIdx_nil, List.map_nil, Instr.fill, List.flatMap_nil, List.append_nil]
    rw [List.take_of_length_le (by simp at hs ⊢; omega)]
  | cons v ps ih =>
    intro k cs hv hs
    have hvz : v.cells.size = z := hv v (by simp)
    rw [List.zipIdx_cons, List.map_cons]
    simp only [Instr.fill, hvz]
    have hfit : k * z + z ≤ cs.size := by
      rw [hs]
      have : (k + 1) * z ≤ (k + (v :: ps).length) * z := Nat.mul_le_mul_right _ (by simp)
      rw [Nat.add_mul] at this; omega
    rw [if_neg (by simp; omega)]
    have hset := set_cells_arr (k * z) v.cells.toList cs (by simpa [hvz] using hfit)
    simp only [Array.toArray_toList] at hset
    rw [hset]
    rw [ih (k + 1) _ (fun u hu => hv u (by simp [hu])) (by
      have hl : v.cells.toList.length = z := by simpa using hvz
      simp only [List.size_toArray, List.length_append, List.length_take, List.length_drop, hl, Array.length_toList]
      rw [hs] at hfit ⊢
      simp only [List.length_cons] at hfit ⊢
      have e : (k + 1 + ps.length) * z = (k + (ps.length + 1)) * z := by congr 1; omega
      rw [e]; omega)]
    congr 2
    have hl : v.cells.toList.length = z := by simpa using hvz
    have ht : (cs.toList.take (k * z)).length = k * z := by simp; omega
    rw [List.flatMap_cons, ← List.append_assoc]
    congr 1
    have e1 : (k + 1) * z - k * z = z := by rw [Nat.add_mul]; omega
    have e2 : (cs.toList.take (k * z)).take ((k + 1) * z) = cs.toList.take (k * z) := List.take_of_length_le (by rw [ht, Nat.add_mul]; omega)
    have e3 : v.cells.toList.take z = v.cells.toList := List.take_of_length_le (by omega)
    rw [List.append_assoc, List.take_append, ht, List.take_append, hl, e1, e2, e3]
    simp

theorem zip_of_range {α : Type} (l : List (Nat × α)) (n : Nat) (h : l.map (·.1) = List.range n) : l = ((l.map (·.2)).zipIdx).map fun p => (p.2, p.1) := by
  have hl : l.length = n := by have := congrArg List.length h; simpa using this
  apply List.ext_getElem?
  intro k
  rw [List.getElem?_map, List.getElem?_zipIdx, List.getElem?_map]
  cases hk : l[k]? with
  | none => simp
  | some p =>
    have hlt : k < l.length := (List.getElem?_eq_some_iff.1 hk).1
    have h1 : (l.map (·.1))[k]? = some p.1 := by simp [hk]
    rw [h] at h1
    have h2 : p.1 = k := by
      rw [List.getElem?_range (by omega)] at h1
      injection h1 with h1; exact h1.symm
    simp [← h2]

section
variable {P : Program} {C : Cx} {hf : Nat → Option AObj} {wr : Nat → Prop} {base nm : Nat} {w : World} {tf : Nat → AV}

theorem run_bsl {t e : TypeId} (ht : P.underlying t = some (.slice e)) {z : Nat} (hz : sizeT P e = some z) {ze : List AV} (hze : zeroC P e = some ze) {n : Nat} (hn : n * z ≤ 16777216) {ps : Array (Nat × Value)} (hps : ps.toList.map (·.1) = List.range n) (hv : ∀ p ∈ ps.toList, p.2.cells.size = z) :
    (Instr.buildSlice t n ps).run P w = .ok (.slice (some ⟨w.heap.size, 0, none⟩) n n) (w.alloc (.cells ((ps.toList.map (·.2)).flatMap fun v => v.cells.toList).toArray e)) := by
  obtain ⟨zv, hzv, -, -⟩ := zeroC_run (C := ⟨fun _ _ => none, fun _ => True, fun _ => none, fun _ => 0, fun _ => 0⟩) hze
  have hl : ps.toList.length = n := by have := congrArg List.length hps; simpa using this
  have key : ∀ zero : Array Value, Instr.fill (fun i => some (i * z, z)) ((Array.range (n * z)).map (zero[· % zero.size]!)) ps.toList = some ((ps.toList.map (·.2)).flatMap fun v => v.cells.toList).toArray := by
    intro zero
    have hzr := zip_of_range ps.toList n hps
    have := fill_seq z (ps.toList.map (·.2)) 0 ((Array.range (n * z)).map (zero[· % zero.size]!)) (by
      intro v hv'
      obtain ⟨p, hp, rfl⟩ := List.mem_map.1 hv'
      exact hv p hp) (by simp [hl])
    rw [← hzr] at this
    rw [this]
    simp
  have hnn : ¬ (n * z > 2 ^ 24) := by omega
  by_cases h0 : n * z = 0
  · have hk := key #[]
    rw [h0] at hk
    have h00 : ¬ ((0 : Nat) > 2 ^ 24) := by omega
    simp only [Instr.buildSlice, Sem.run_bind, run_underlying ht, Result.andThen, sizeT_run hz, h0, if_true]
    rw [if_neg h00]
    simp only [Sem.run_bind, Sem.run_pure, Result.andThen, hk, newRow, run_newObj]; rfl
  · simp only [Instr.buildSlice, Sem.run_bind, run_underlying ht, Result.andThen, sizeT_run hz]
    rw [if_neg hnn]
    simp only [Sem.run_bind, Sem.run_pure, Result.andThen, h0, if_false, hzv, key, newRow, run_newObj]; rfl

theorem PR.cells {rd : Rd} {y : PV} {v : Value} (h : PR rd y v) (hk : ∀ l, y ≠ .tup l) : ∃ us : List Value, v.cells = us.toArray ∧ RelL (PR rd) y.cells us ∧ ∀ c ∈ y.cells, c.one = true := by
  cases h with
  | agg l vs h1 hl h => exact ⟨vs, rfl, ⟨hl, h⟩, h1⟩
  | tup l vs hl h => exact absurd rfl (hk l)
  | b x => exact ⟨[_], rfl, .cons (.b x) .nil, by simp [PV.cells, PV.one]⟩
  | i k n => exact ⟨[_], rfl, .cons (.i k n) .nil, by simp [PV.cells, PV.one]⟩
  | s x => exact ⟨[_], rfl, .cons (.s x) .nil, by simp [PV.cells, PV.one]⟩
  | sl0 => exact ⟨[_], rfl, .cons .sl0 .nil, by simp [PV.cells, PV.one]⟩
  | sle a cap => exact ⟨[_], rfl, .cons (.sle a cap) .nil, by simp [PV.cells, PV.one]⟩
  | sl l z vs bk of cap hc hz h1 hl hr h => exact ⟨[_], rfl, .cons (.sl l z vs bk of cap hc hz h1 hl hr h) .nil, by simp [PV.cells, PV.one]⟩
  | fn f => exact ⟨[_], rfl, .cons (.fn f) .nil, by simp [PV.cells, PV.one]⟩
  | fn0 => exact ⟨[_], rfl, .cons .fn0 .nil, by simp [PV.cells, PV.one]⟩
  | p0 => exact ⟨[_], rfl, .cons .p0 .nil, by simp [PV.cells, PV.one]⟩
  | if0 => exact ⟨[_], rfl, .cons .if0 .nil, by simp [PV.cells, PV.one]⟩
  | ifc t x v h => exact ⟨[_], rfl, .cons (.ifc t x v h) .nil, by simp [PV.cells, PV.one]⟩
  | pt x o vs bk of h1 hl hr h => exact ⟨[_], rfl, .cons (.pt x o vs bk of h1 hl hr h) .nil, by simp [PV.cells, PV.one]⟩
  | fc f a c va vc hla hlc ha hc => exact ⟨[_], rfl, .cons (.fc f a c va vc hla hlc ha hc) .nil, by simp [PV.cells, PV.one]⟩

theorem mkFc_ok {rd : Rd} {f : Fn} {oa oc : Option (List PV)} {y : PV} {va vc : List Value} (h : mkFc f oa oc = some y) (ha : ∀ a, oa = some a → RelL (PR rd) a va) (hc : ∀ c, oc = some c → RelL (PR rd) c vc) : PR rd y (.func f va.toArray vc.toArray) := by
  unfold mkFc at h
  split at h
  · simp only [Option.some.injEq] at h; subst h
    rw [(ha [] rfl).nil_inv, (hc [] rfl).nil_inv]; exact .fn _
  · simp only [Option.some.injEq] at h; subst h
    exact .fc _ _ _ va vc (ha _ rfl).1 (hc _ rfl).1 (ha _ rfl).2 (hc _ rfl).2
  · cases h
theorem mkFc_one {f : Fn} {oa oc : Option (List PV)} {y : PV} (h : mkFc f oa oc = some y) : y.one = true := by
  unfold mkFc at h
  split at h <;> first | (cases h; done) | (simp only [Option.some.injEq] at h; subst h; rfl)
theorem pv0_ok {x : AV} {y : PV} {v : Value} (h : AR C x v) (hx : x.pv0 = some y) : PR C.rd y v := by
  unfold AV.pv0 at hx
  split at hx <;> simp only [Option.some.injEq, reduceCtorEq] at hx <;> subst hx
  · cases h with | v h => exact h
  · cases h with | fs l a h => exact h
  · cases h; exact .sl0
  · cases h with | pp _ _ vs bk of h1 hl hr h => exact .pt _ _ vs bk of h1 hl hr h
theorem pv0s_ok {l : List AV} {ys : List PV} {vs : List Value} (h : RelL (AR C) l vs) (hl : mapO AV.pv0 l = some ys) : RelL (PR C.rd) ys vs := by
  obtain ⟨m1, m2⟩ := mapO_some hl
  refine ⟨by rw [← m1]; exact h.1, fun k y v hy hv => ?_⟩
  have hk : k < l.length := by have := (List.getElem?_eq_some_iff.1 hy).1; omega
  exact pv0_ok (h.2 k l[k] v (by simp [hk]) hv) (m2 k _ y (by simp [hk]) hy)
theorem pv1_ok {x : AV} {y : PV} {v : Value} (h : AR C x v) (hx : x.pv1 = some y) : PR C.rd y v := by
  unfold AV.pv1 at hx
  split at hx
  · simp only [Option.some.injEq] at hx; subst hx; cases h with | v h => exact h
  · simp only [Option.some.injEq] at hx; subst hx; cases h with | fs l a h => exact h
  · simp only [Option.some.injEq] at hx; subst hx; cases h; exact .sl0
  · simp only [Option.some.injEq] at hx; subst hx; cases h with | pp _ _ vs bk of h1 hl hr h => exact .pt _ _ vs bk of h1 hl hr h
  · cases h with
    | fn f a c va vc hla hlc ha hc => exact mkFc_ok hx (fun a' h' => pv0s_ok ⟨hla, ha⟩ h') (fun c' h' => pv0s_ok ⟨hlc, hc⟩ h')
  · cases hx

theorem pv1_one {x : AV} {y : PV} (hx : x.pv1 = some y) (h1 : x.one = true) : y.one = true := by
  unfold AV.pv1 at hx
  split at hx
  · simp only [Option.some.injEq] at hx; subst hx; exact h1
  · simp only [Option.some.injEq] at hx; subst hx; rfl
  · simp only [Option.some.injEq] at hx; subst hx; rfl
  · simp only [Option.some.injEq] at hx; subst hx; rfl
  · exact mkFc_one hx
  · cases hx

theorem pvs_ok {l : List AV} {ys : List PV} {vs : List Value} (h : RelL (AR C) l vs) (hl : mapO AV.pv1 l = some ys) (h1 : l.all AV.one = true) : RelL (PR C.rd) ys vs ∧ ∀ y ∈ ys, y.one = true := by
  obtain ⟨m1, m2⟩ := mapO_some hl
  have hg : ∀ (k : Nat) (y : PV), ys[k]? = some y → ∃ x, l[k]? = some x ∧ x.pv1 = some y := by
    intro k y hy
    have hk : k < l.length := by have := (List.getElem?_eq_some_iff.1 hy).1; omega
    exact ⟨l[k], by simp [hk], m2 k _ y (by simp [hk]) hy⟩
  refine ⟨⟨by rw [← m1]; exact h.1, fun k y v hy hv => ?_⟩, fun y hy => ?_⟩
  · obtain ⟨x, hx, hxy⟩ := hg k y hy
    exact pv1_ok (h.2 k x v hx hv) hxy
  · obtain ⟨k, hk, rfl⟩ := List.getElem_of_mem hy
    obtain ⟨x, hx, hxy⟩ := hg k ys[k] (by simp [hk])
    rw [List.all_eq_true] at h1
    exact pv1_one hxy (h1 x (List.mem_of_getElem? hx))

theorem pvL_ok {l : List AV} {ys : List PV} {vs : List Value} (h : RelL (AR C) l vs) (hl : AV.pvL l = some ys) : RelL (PR C.rd) ys vs ∧ ∀ y ∈ ys, ∀ m, y ≠ .tup m := by
  unfold AV.pvL at hl
  obtain ⟨m1, m2⟩ := mapO_some hl
  have hg : ∀ (k : Nat) (y : PV), ys[k]? = some y → ∃ x, l[k]? = some x ∧ (match x with
    | .agg l => if l.all AV.one then (mapO AV.pv1 l).map PV.agg else none
    | x => if x.okc then x.pv1 else none) = some y := by
    intro k y hy
    have hk : k < l.length := by have := (List.getElem?_eq_some_iff.1 hy).1; omega
    exact ⟨l[k], by simp [hk], m2 k _ y (by simp [hk]) hy⟩
  have hone : ∀ (x : AV) (y : PV) (v : Value), AR C x v → (match x with
    | .agg l => if l.all AV.one then (mapO AV.pv1 l).map PV.agg else none
    | x => if x.okc then x.pv1 else none) = some y → PR C.rd y v ∧ ∀ m, y ≠ .tup m := by
    intro x y v hxv hxy
    by_cases hag : ∃ m, x = .agg m
    · obtain ⟨m, rfl⟩ := hag
      simp only at hxy
      split at hxy
      · rename_i hall
        simp only [Option.map_eq_some_iff] at hxy
        obtain ⟨zs, hzs, rfl⟩ := hxy
        cases hxv with
        | agg _ us hl' h' =>
          obtain ⟨p1, p2⟩ := pvs_ok ⟨hl', h'⟩ hzs hall
          exact ⟨.agg zs us p2 p1.1 p1.2, by simp⟩
      · cases hxy
    · have hxy' : (if x.okc then x.pv1 else none) = some y := by
        cases x <;> first | exact hxy | exact absurd ⟨_, rfl⟩ hag
      clear hxy
      have hxy := hxy'
      split at hxy
      · rename_i hok
        refine ⟨pv1_ok hxv hxy, ?_⟩
        intro m hm
        subst hm
        unfold AV.pv1 at hxy
        split at hxy
        · simp only [Option.some.injEq] at hxy; subst hxy; simp [AV.okc] at hok
        · cases hxy
        · cases hxy
        · cases hxy
        · have := mkFc_one hxy; simp [PV.one] at this
        · cases hxy
      · cases hxy
  refine ⟨⟨by rw [← m1]; exact h.1, fun k y v hy hv => ?_⟩, fun y hy => ?_⟩
  · obtain ⟨x, hx, hxy⟩ := hg k y hy
    exact (hone x y v (h.2 k x v hx hv) hxy).1
  · obtain ⟨k, hk, rfl⟩ := List.getElem_of_mem hy
    obtain ⟨x, hx, hxy⟩ := hg k ys[k] (by simp [hk])
    obtain ⟨v, -, hv⟩ := h.get hx
    exact (hone x _ v hv hxy).2

theorem rel_flat_p {rd : Rd} {xs : List PV} {vs : List Value} (h : RelL (PR rd) xs vs) (hk : ∀ y ∈ xs, ∀ m, y ≠ .tup m) : RelL (PR rd) (xs.flatMap PV.cells) (vs.flatMap fun v => v.cells.toList) ∧ ∀ c ∈ xs.flatMap PV.cells, c.one = true := by
  induction xs generalizing vs with
  | nil => rw [h.nil_inv]; exact ⟨.nil, by simp⟩
  | cons x xs ih =>
    obtain ⟨v, us, rfl, h1, h2⟩ := h.uncons
    obtain ⟨i1, i2⟩ := ih h2 fun y hy => hk y (by simp [hy])
    obtain ⟨ws, hw, hr, ho⟩ := h1.cells (hk x (by simp))
    rw [List.flatMap_cons, List.flatMap_cons, hw]
    refine ⟨hr.append i1, fun c hc => ?_⟩
    rcases List.mem_append.1 hc with hc | hc
    · exact ho c hc
    · exact i2 c hc

theorem rel_flat_a {xs : List AV} {vs : List Value} (h : RelL (AR C) xs vs) (hk : ∀ y ∈ xs, y.okc = true) : RelL (AR C) (xs.flatMap AV.cells) (vs.flatMap fun v => v.cells.toList) := by
  induction xs generalizing vs with
  | nil => rw [h.nil_inv]; exact .nil
  | cons x xs ih =>
    obtain ⟨v, us, rfl, h1, h2⟩ := h.uncons
    have i1 := ih h2 fun y hy => hk y (by simp [hy])
    obtain ⟨ws, hw, hr, -⟩ := h1.cells (hk x (by simp))
    rw [List.flatMap_cons, List.flatMap_cons, hw]
    exact hr.append i1

theorem ok_bsl_pure (h : HR C hf wr w) (hbase : base ≤ w.heap.size) {t e : TypeId} (ht : P.underlying t = some (.slice e)) {z : Nat} (hz : sizeT P e = some z) {ze : List AV} (hze : zeroC P e = some ze) {n : Nat} (hn : n * z ≤ 16777216) {ps : Array (Nat × Value)} (hps : ps.toList.map (·.1) = List.range n)
    {l : List AV} (hr : RelL (AR C) l (ps.toList.map (·.2))) {xs : List PV} (hxs : AV.pvL l = some xs) (hc : ∀ x ∈ xs, x.cells.length = z) :
    OpOk P C hf wr base nm (vS (Instr.buildSlice t n ps)) w (.fs xs) [] := by
  obtain ⟨hp, hnt⟩ := pvL_ok hr hxs
  have hpl : ps.toList.length = n := by have := congrArg List.length hps; simpa using this
  have hxl : xs.length = n := by have := hp.1; rw [List.length_map] at this; omega
  have hv : ∀ p ∈ ps.toList, p.2.cells.size = z := by
    intro p hp'
    obtain ⟨k, hk, rfl⟩ := List.getElem_of_mem hp'
    have hkx : k < xs.length := by omega
    have := hp.2 k xs[k] (ps.toList[k]).2 (by simp [hkx]) (by simp only [List.getElem?_map, List.getElem?_eq_getElem hk, Option.map_some])
    obtain ⟨us, hu, hru, -⟩ := this.cells (hnt _ (List.getElem_mem hkx))
    rw [hu, List.size_toArray, ← hru.1, hc _ (List.getElem_mem hkx)]
  have hrun := run_bsl (P := P) (w := w) ht hz hze hn hps hv
  obtain ⟨hrf, hone⟩ := rel_flat_p hp hnt
  let vs := (ps.toList.map (·.2)).flatMap fun v => v.cells.toList
  have hle := Cx.le_newPure h nm vs.toArray
  refine ⟨.slice (some ⟨w.heap.size, 0, none⟩) n n, w.alloc (.cells vs.toArray e), C.newPure w nm vs.toArray, .inl (by simp only [vS, Sem.run_bind, hrun, Result.andThen, Sem.run_pure]; rfl), ?_, ?_, hle, fun _ => Iff.rfl, Wf.alloc _ _ _, ?_, .mu rfl⟩
  · rw [← hxl]
    refine .fs xs _ (.sl xs z vs w.heap.size 0 xs.length (Nat.le_refl _) hc hone hrf.1 ?_ ?_)
    · intro k v hv
      simp only [Cx.newPure, if_true, Nat.zero_add]
      simpa using hv
    · intro k x v hx hv
      exact (hrf.2 k x v hx hv).mono hle.rd
  · exact h.newPure nm vs.toArray e
  · intro b hb
    funext o
    have : b ≠ w.heap.size := by omega
    simp [Cx.newPure, this]

theorem ok_bsl_obj (h : HR C hf wr w) (hnm : ¬ C.al nm) (hwr : ∀ b, base ≤ b → wr b) (hbase : base ≤ w.heap.size) {t e : TypeId} (ht : P.underlying t = some (.slice e)) {z : Nat} (hz : sizeT P e = some z) {ze : List AV} (hze : zeroC P e = some ze) {n : Nat} (hn : n * z ≤ 16777216) {ps : Array (Nat × Value)} (hps : ps.toList.map (·.1) = List.range n)
    {l : List AV} (hr : RelL (AR C) l (ps.toList.map (·.2))) (hc : ∀ x ∈ l, x.okc = true ∧ x.cells.length = z) :
    OpOk P C hf wr base nm (vS (Instr.buildSlice t n ps)) w (.rs nm 0 0 n z) [(nm, some ⟨0, l.flatMap AV.cells, false, none⟩)] := by
  have hpl : ps.toList.length = n := by have := congrArg List.length hps; simpa using this
  have hxl : l.length = n := by have := hr.1; rw [List.length_map] at this; omega
  have hv : ∀ p ∈ ps.toList, p.2.cells.size = z := by
    intro p hp'
    obtain ⟨k, hk, rfl⟩ := List.getElem_of_mem hp'
    have hkx : k < l.length := by omega
    have := hr.2 k l[k] (ps.toList[k]).2 (by simp [hkx]) (by simp only [List.getElem?_map, List.getElem?_eq_getElem hk, Option.map_some])
    obtain ⟨us, hu, hru, -⟩ := this.cells (hc _ (List.getElem_mem hkx)).1
    rw [hu, List.size_toArray, ← hru.1, (hc _ (List.getElem_mem hkx)).2]
  have hrun := run_bsl (P := P) (w := w) ht hz hze hn hps hv
  have hrf := rel_flat_a hr fun y hy => (hc y hy).1
  have hfl : ((ps.toList.map (·.2)).flatMap fun v => v.cells.toList).length = n * z := by
    rw [← hrf.1]
    clear hrf hr hrun hv hpl
    subst hxl
    induction l with
    | nil => simp
    | cons x l ih =>
      rw [List.flatMap_cons, List.length_append, (hc x (by simp)).2]
      have hps' : True := trivial
      have : (l.flatMap AV.cells).length = l.length * z := by
        clear ih hps hn
        induction l with
        | nil => simp
        | cons y l ih => rw [List.flatMap_cons, List.length_append, (hc y (by simp)).2, ih fun a ha => hc a (by rcases List.mem_cons.1 ha with rfl | ha <;> simp [*]), List.length_cons, Nat.succ_mul]; omega
      rw [this, List.length_cons, Nat.succ_mul]; omega
  refine ok_new h hnm hwr hbase (.inl rfl) (vs := ((ps.toList.map (·.2)).flatMap fun v => v.cells.toList).toArray) (el := e) (val := .slice (some ⟨w.heap.size, 0, none⟩) n n) (.inl (by simp only [vS, Sem.run_bind, hrun, Result.andThen, Sem.run_pure])) (by have := hrf.1; simpa using Nat.le_of_eq this) (fun _ => by simpa using hrf.1) (fun k x v hx hv => hrf.2 k x v hx (by simpa using hv)) ?_
  refine .rs nm 0 0 n z _ 0 n (.inr rfl) (Nat.le_refl _) (.inr rfl) fun cc hcc => ?_
  simp only [Cx.newObj, if_true] at hcc ⊢
  exact ⟨Nat.zero_le _, fun _ => ⟨trivial, by rw [List.size_toArray, hfl]; omega⟩⟩

end
end Go.Dom

/-
  THE ABSTRACT OPERATIONS ARE RIGHT, TENTH PART: pointers held against each other, unsafe.Pointer, unsafe.String over an own row. Own work; generic over the program.
-/
set_option linter.all false
namespace Go.Dom
open Go.RowKit

section
variable {P : Program} {C : Cx} {hf : Nat → Option AObj} {wr : Nat → Prop} {base nm : Nat} {w : World} {tf : Nat → AV}

theorem run_eq_ptr {ng : Bool} {tp te : TypeId} {j : TypeInfo} (ox oy : Operand) (hp : P.underlying tp = some (.pointer te)) (hte : P.info? te = some j) {p q : Option Addr} {r : Bool} (hpq : (p = q ∧ r = true) ∨ (p.isSome ≠ q.isSome ∧ r = false)) (w : World) :
    (do eqGuard (if ng then .neq else .eql) tp ox oy (.pointer p) (.pointer q); binOp (if ng then .neq else .eql) tp (.pointer p) (.pointer q) : Sem Value).run P w = .ok (.bool (if ng then !r else r)) w := by
  have h : ∀ d : Nat, (Op.equalIn (d + 1) tp (.pointer p) (.pointer q)).run P w = .ok r w := fun d => by
    rcases hpq with ⟨rfl, rfl⟩ | ⟨hne, rfl⟩
    · cases p with
      | none => simp [Op.equalIn, run_underlying hp]
      | some a =>
        simp only [Op.equalIn, Sem.run_bind, run_underlying hp, Result.andThen, sizeOf, typeInfo, hte]
        simp [hte, run_sameAddr_same]
    · cases p <;> cases q <;> simp_all [Op.equalIn, run_underlying hp]
  have h' : (Op.equal tp (.pointer p) (.pointer q)).run P w = .ok r w := h 9999
  cases ng <;> simp [eqGuard, binOp, h']

theorem run_eq_nil {ng : Bool} {t e : TypeId} (ox oy : Operand) (hp : P.underlying t = some (.slice e)) (q : Option Addr) (l c : Nat) (w : World) :
    (do eqGuard (if ng then .neq else .eql) t ox oy (.slice q l c) (.slice none 0 0); binOp (if ng then .neq else .eql) t (.slice q l c) (.slice none 0 0) : Sem Value).run P w = .ok (.bool (if ng then !q.isNone else q.isNone)) w := by
  have h : ∀ d : Nat, (Op.equalIn (d + 1) t (.slice q l c) (.slice none 0 0)).run P w = .ok q.isNone w := fun d => by
    cases q <;> simp [Op.equalIn, run_underlying hp]
  have h' : (Op.equal t (.slice q l c) (.slice none 0 0)).run P w = .ok q.isNone w := h 9999
  cases ng <;> simp [eqGuard, binOp, h']

/-- A slice held against nil. -/
theorem ok_snl (h : HR C hf wr w) {ng : Bool} {t e : TypeId} (ox oy : Operand) (hp : P.underlying t = some (.slice e)) {x : Value} {sx' : SX} (hx : AR C (sx'.ev tf) x) {ao : AO} (ha : aop nm (.snl ng sx') tf hf = some ao) :
    OpOk P C hf wr base nm (vS (do eqGuard (if ng then .neq else .eql) t ox oy x (.slice none 0 0); binOp (if ng then .neq else .eql) t x (.slice none 0 0))) w ao.v ao.up := by
  simp only [aop] at ha
  generalize sx'.ev tf = vx at hx ha
  split at ha
  · simp only [retO, Option.some.injEq] at ha; subst ha
    cases hx with | v hx => cases hx <;> exact .val h (run_eq_nil ox oy hp _ _ _ w) (.ub _)
  · simp only [retO, Option.some.injEq] at ha; subst ha
    cases hx with | v hx => cases hx; exact .val h (run_eq_nil ox oy hp _ _ _ w) (by cases ng <;> exact .v (.b _))
  · simp only [retO, Option.some.injEq] at ha; subst ha
    cases hx; exact .val h (run_eq_nil ox oy hp _ _ _ w) (by cases ng <;> exact .v (.b _))
  · simp only [retO, Option.some.injEq] at ha; subst ha
    cases hx; exact .val h (run_eq_nil ox oy hp _ _ _ w) (.ub _)
  · simp only [retO, Option.some.injEq] at ha; subst ha
    cases hx with | fs _ _ hx => cases hx; exact .val h (run_eq_nil ox oy hp _ _ _ w) (by cases ng <;> exact .v (.b _))
  · simp only [retO, Option.some.injEq] at ha; subst ha
    cases hx; exact .val h (run_eq_nil ox oy hp _ _ _ w) (by cases ng <;> exact .v (.b _))
  · cases ha

theorem ok_peq (h : HR C hf wr w) {ng : Bool} {tp te : TypeId} {j : TypeInfo} (ox oy : Operand) (hp : P.underlying tp = some (.pointer te)) (hte : P.info? te = some j) {x y : Value} {vx vy : AV} (hx : AR C vx x) (hy : AR C vy y) {ao : AO} (ha : aPeq hf ng vx vy = some ao) (hpre : ao.pre) :
    OpOk P C hf wr base nm (vS (do eqGuard (if ng then .neq else .eql) tp ox oy x y; binOp (if ng then .neq else .eql) tp x y)) w ao.v ao.up := by
  unfold aPeq at ha
  replace hx := hx.nz
  generalize vx.nz = vx at hx ha
  split at ha
  · simp only [retO, Option.some.injEq] at ha; subst ha
    cases hx with | v hx => cases hx; cases hy with | v hy => cases hy; exact .val h (run_eq_ptr ox oy hp hte (r := true) (.inl ⟨rfl, rfl⟩) w) (by cases ng <;> exact .v (.b _))
  · simp only [retO, Option.some.injEq] at ha; subst ha
    cases hx; cases hy with | v hy => cases hy; exact .val h (run_eq_ptr ox oy hp hte (r := false) (.inr ⟨by simp, rfl⟩) w) (by cases ng <;> exact .v (.b _))
  · simp only [retO, Option.some.injEq] at ha; subst ha
    cases hy; cases hx with | v hx => cases hx; exact .val h (run_eq_ptr ox oy hp hte (r := false) (.inr ⟨by simp, rfl⟩) w) (by cases ng <;> exact .v (.b _))
  · simp only [retO, Option.some.injEq] at ha; subst ha
    cases hx; cases hy with | v hy => cases hy; exact .val h (run_eq_ptr ox oy hp hte (r := false) (.inr ⟨by simp, rfl⟩) w) (by cases ng <;> exact .v (.b _))
  · split at ha
    · rename_i hc
      obtain ⟨rfl, rfl, rfl⟩ := hc
      split at ha
      · rename_i ob hn
        simp only [Option.some.injEq] at ha; subst ha
        rw [inv_p hx h hn hpre, inv_p hy h hn hpre]
        exact .val h (run_eq_ptr ox oy hp hte (r := true) (.inl ⟨rfl, rfl⟩) w) (by cases ng <;> exact .v (.b _))
      · cases ha
    · cases ha
  · cases ha

theorem ok_cvp (h : HR C hf wr w) {s d : TypeId} {ok : TypeId → Nat → Nat → Bool} {x : Value} {vx : AV} (hx : AR C vx x)
    (hrun : ∀ (b o T n : Nat), w.shape? b = some (T, n) → o < n → ok T n o = true → (convert s d (.pointer (some ⟨b, o, none⟩))).run P w = .ok (.pointer (some ⟨b, o, none⟩)) w)
    {ao : AO} (ha : aCvp hf ok vx = some ao) (hpre : ao.pre) : OpOk P C hf wr base nm (vS (convert s d x)) w ao.v ao.up := by
  unfold aCvp at ha
  split at ha
  · rename_i n ver o
    split at ha
    · rename_i ob hn
      split at ha
      · rename_i T hT
        simp only [Option.some.injEq] at ha; subst ha
        obtain ⟨p1, p2, p3, p4⟩ := hpre
        obtain ⟨cs, el, g1, g2, g3, g4, g5⟩ := h.obj n ob hn
        obtain ⟨cs', g6⟩ := h.typ n ob hn T hT
        rw [g1] at g6
        injection g6 with g6; injection g6 with e1 e2 e3
        subst e1; subst e2
        have hv := inv_p hx h hn p1
        subst hv
        exact .val h (hrun (C.mu n) o el cs.size (by simp [World.shape?, g1]) (by rw [← g4 p3]; exact p2) (by rw [← g4 p3]; exact p4)) hx
      · cases ha
    · cases ha
  · cases ha

theorem ok_sld (h : HR C hf wr w) {ts : Array TypeId} {ty : TypeId} {x : Value} {vx : AV} (hx : AR C vx x) {ao : AO} (ha : aSld vx = some ao) (hpre : ao.pre) :
    OpOk P C hf wr base nm (vS (Builtin.unsafeSliceData_ ts ty #[x])) w ao.v ao.up := by
  unfold aSld at ha
  split at ha
  · simp only [retO, Option.some.injEq] at ha; subst ha
    cases hx
    exact .val h (Lib.run_unsafeSliceData_nil w ts ty 0 0) (.v .p0)
  · rename_i n ver o len z
    simp only [retP, Option.some.injEq] at ha; subst ha
    cases hx with
    | rs _ _ _ _ _ b o' cap hal hcap ho hx =>
      have hpre : 0 < len := hpre
      have hc : cap ≠ 0 := by omega
      have ho' : o' = o := by rcases ho with ho | ho; exact absurd ho hc; exact ho
      subst ho'
      exact .val h (Lib.run_unsafeSliceData_row w ts ty ⟨b, o', none⟩ len cap hc) (.p n ver o' b hal fun c hc => ⟨(hx c hc).1, fun e => ((hx c hc).2 e).1⟩)
  · cases ha

theorem isByte_ok {x : AV} {v : Value} (h : AR C x v) (hb : x = .v (u8 x.byte)) : v = .int .u8 x.byte.toNat := by
  rw [hb] at h
  cases h with | v h => cases h; rfl

/-- An object is given up. -/
def Cx.kill (C : Cx) (nm n : Nat) : Cx := { C with al := fun k => C.al k ∨ k = nm, cur := fun k => if k = n then none else C.cur k }

theorem Cx.le_kill (C : Cx) (nm n : Nat) : C.Le (C.kill nm n) := by
  refine ⟨fun _ _ _ h => h, fun _ h => .inl h, fun k _ d hd => ?_⟩
  by_cases e : k = n
  · simp [Cx.kill, e] at hd
  · simp only [Cx.kill, e, if_false] at hd
    exact ⟨d, hd, Nat.le_refl _, fun _ => ⟨rfl, rfl⟩⟩

theorem HR.kill (h : HR C hf wr w) (nm : Nat) {n : Nat} {ob : AObj} (hn : hf n = some ob) {w' : World} (hoth : ∀ b, b < w.heap.size → b ≠ C.mu n → w'.heap[b]? = w.heap[b]?) : HR (C.kill nm n) (fun k => if k = n then none else hf k) wr w' := by
  have hle := C.le_kill nm n
  have hold : ∀ m oc, (if m = n then none else hf m) = some oc → m ≠ n ∧ hf m = some oc := by
    intro m oc hm
    by_cases e : m = n
    · simp [e] at hm
    · simp only [e, if_false] at hm; exact ⟨e, hm⟩
  have hblk : ∀ m oc, hf m = some oc → m ≠ n → w'.heap[C.mu m]? = w.heap[C.mu m]? := fun m oc hm e => hoth _ (h.muLt hm) fun he => e (h.inj _ _ _ _ hm hn he)
  refine ⟨?_, ?_, ?_, ?_, ?_, ?_, ?_, ?_⟩
  · intro b o v hv
    have h1 := h.rdw b o v hv
    have hne : b ≠ C.mu n := fun e => by have hv' : C.rd b o = some v := hv; rw [e, h.sep n ob hn] at hv'; cases hv'
    rw [← h1]; exact World.cell?_of_block (hoth b (cell_lt h1) hne)
  · intro m oc hm
    obtain ⟨e, hm⟩ := hold m oc hm
    exact ⟨.inl (h.live m oc hm).1, by simp [Cx.kill, e, (h.live m oc hm).2]⟩
  · intro m hm
    by_cases e : m = n
    · simp [Cx.kill, e]
    · simp only [e, if_false] at hm
      simp [Cx.kill, e, h.dead m hm]
  · intro m oc hm k
    obtain ⟨e, hm⟩ := hold m oc hm
    exact h.sep m oc hm k
  · intro m m' oc oc' hm hm' hmu
    exact h.inj _ _ _ _ (hold m oc hm).2 (hold m' oc' hm').2 hmu
  · intro m oc hm
    exact h.wr m oc (hold m oc hm).2
  · intro m oc hm
    obtain ⟨e, hm⟩ := hold m oc hm
    obtain ⟨cs, el', h1, h2, h3, h4, h5⟩ := h.obj m oc hm
    exact ⟨cs, el', (hblk m oc hm e).trans h1, h2, h3, h4, fun k x v hx hv => (h5 k x v hx hv).mono hle⟩
  · intro m oc hm t ht
    obtain ⟨e, hm⟩ := hold m oc hm
    obtain ⟨cs, h1⟩ := h.typ m oc hm t ht
    exact ⟨cs, (hblk m oc hm e).trans h1⟩

theorem Wf.freeze (w : World) {a : Addr} (ha : wr a.block) (n : Nat) : Wf wr w (w.freeze a n) := by
  unfold World.freeze
  split
  · exact Wf.refl _ _
  · refine ⟨rfl, rfl, rfl, by simp, fun b hb hn => ?_⟩
    have hne : a.block ≠ b := fun e => hn (e ▸ ha)
    simp [Array.getElem?_modify, hne]

theorem ok_ust (h : HR C hf wr w) {pt it ty e : TypeId} (hp : P.underlying pt = some (.pointer e)) (hce : P.cellsOf e = 1) {x y : Value} {vx vy : AV} (hx : AR C vx x) (hy : AR C vy y) {ao : AO} (ha : aUst hf e vx vy = some ao) (hpre : ao.pre) :
    OpOk P C hf wr base nm (vS (Builtin.unsafeString_ #[pt, it] ty #[x, y])) w ao.v ao.up := by
  unfold aUst at ha
  split at ha
  · simp only [retO, Option.some.injEq] at ha; subst ha
    cases hx with | v hx => cases hx; cases hy with | v hy => cases hy; exact .val h (Lib.run_unsafeString_none w pt it ty none) (.v (.s []))
  · rename_i n ver o len
    split at ha
    · rename_i ob hn
      simp only [Option.some.injEq] at ha; subst ha
      obtain ⟨p1, p2, p3, p4, p5, p6, p7⟩ := hpre
      subst p2
      have hv := inv_p hx h hn p1; subst hv
      have hv := inv_i hy; subst hv
      obtain ⟨cs, el, g1, g2, g3, g4, g5⟩ := h.obj n ob hn
      obtain ⟨cs', g6⟩ := h.typ n ob hn e p3
      rw [g1] at g6
      injection g6 with g6; injection g6 with e1 e2 e3
      subst e1; subst e2
      have hll : ((ob.cells.take len.toNat).map AV.byte).length = len.toNat := by simp; omega
      have hli : (len : Int) = (((ob.cells.take len.toNat).map AV.byte).length : Nat) := by rw [hll]; omega
      have hne : (ob.cells.take len.toNat).map AV.byte ≠ [] := by
        intro e0; rw [e0] at hll; simp at hll; omega
      have hrun := Lib.run_unsafeString_row (P := P) w pt it ty el hp hce (C.mu n) cs.size (by simp [World.shape?, g1]) ((ob.cells.take len.toNat).map AV.byte) hne (by rw [hll]; omega) (by rw [hll]; omega) (by
        intro j b hb
        rw [add_none, cell_of_heap g1, Nat.zero_add]
        rw [List.getElem?_map, Option.map_eq_some_iff] at hb
        obtain ⟨a, ha, rfl⟩ := hb
        rw [List.getElem?_take] at ha
        split at ha
        · have hj : j < cs.size := by have := (List.getElem?_eq_some_iff.1 ha).1; omega
          have har := g5 j a cs[j] ha (by simp [hj])
          have hby := p7 a (by
            have : (ob.cells.take len.toNat)[j]? = some a := by rw [List.getElem?_take, if_pos (by assumption)]; exact ha
            exact List.mem_of_getElem? this)
          rw [← isByte_ok har hby]
          simp [hj]
        · cases ha)
      rw [← hli] at hrun
      refine ⟨_, _, C.kill nm n, .inl (by simp only [vS, Sem.run_bind, hrun, Result.andThen, Sem.run_pure]; rfl), .v (.s _), ?_, C.le_kill nm n, fun _ => Iff.rfl, Wf.freeze w (h.wr n ob hn) _, fun _ _ => rfl, .one (.inl rfl) fun _ _ => rfl⟩
      rw [updF_one]
      refine h.kill nm hn fun b _ hb => ?_
      unfold World.freeze
      split
      · rfl
      · simp [Array.getElem?_modify, Ne.symm hb]
    · cases ha
  · cases ha

end
end Go.Dom
