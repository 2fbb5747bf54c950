/-
  THE ABSTRACT OPERATIONS ARE RIGHT, FOURTH PART: indexes, fields, lengths, conversions. Own work; generic over the program.
-/
import Derived.Test.YtjigfdhjmfcbpaaDomH
set_option linter.all false
namespace Go.Dom
open Go.RowKit

section
variable {P : Program} {C : Cx} {hf : Nat → Option AObj} {wr : Nat → Prop} {base nm : Nat} {w : World} {tf : Nat → AV}

theorem ok_slR (h : HR C hf wr w) {t e : TypeId} (ht : P.underlying t = some (.slice e)) {z : Nat} (hz : sizeT P e = some z) {n ver o len : Nat} {x : Value} (hx : AR C (.rs n ver o len z) x) {vlo vhi : Option AV} {xlo xhi : Option Value} (hlo : OR C vlo xlo) (hhi : OR C vhi xhi)
    {l hh : Nat} {p : Prop} (hb : bounds len vlo vhi = some (l, hh, p)) (hp : p) : OpOk P C hf wr base nm (vS (Instr.sliceAt t x xlo xhi none)) w (.rs n ver (o + l * z) (hh - l) z) [] := by
  cases hx with
  | rs n ver o len z b o' cap ha hc ho hx =>
  obtain ⟨hrun, h1, h2⟩ := run_bounds (P := P) (w := w) (sl := true) (cap := cap) hb hp hlo hhi hc
  refine .val h (val := .slice (if cap = l then some ⟨b, o', none⟩ else (some ⟨b, o', none⟩ : Option Addr).map (·.add (l * z))) (hh - l) (cap - l)) ?_ ?_
  · simp only [Instr.sliceAt, Instr.slice, Sem.run_bind, run_underlying ht, Result.andThen, Sem.run_pure, hrun, sizeT_run hz]
  · by_cases hcl : cap = l
    · rw [if_pos hcl]
      refine .rs n ver _ _ z b o' _ ha (by omega) (.inl (by omega)) fun c hc' => ?_
      obtain ⟨h3, h4⟩ := hx c hc'
      refine ⟨h3, fun e => ⟨(h4 e).1, ?_⟩⟩
      have := (h4 e).2
      rw [hcl] at this; simp [hcl]; exact this
    · rw [if_neg hcl]
      simp only [Option.map_some, add_none]
      refine .rs n ver _ _ z b _ _ ha (by omega) (.inr ?_) fun c hc' => ?_
      · have : cap ≠ 0 := by omega
        rcases ho with ho | ho
        · omega
        · rw [ho]
      · obtain ⟨h3, h4⟩ := hx c hc'
        refine ⟨h3, fun e => ⟨(h4 e).1, ?_⟩⟩
        have := (h4 e).2
        have h5 : l * z + (cap - l) * z = cap * z := by rw [← Nat.add_mul]; congr 1; omega
        omega

theorem ok_slA (h : HR C hf wr w) {t e : TypeId} {cnt : Nat} (ht : P.underlying t = some (.array cnt e)) {z : Nat} (hz : sizeT P e = some z) {n ver o : Nat} {x : Value} (hx : AR C (.p n ver o) x) {ob : AObj} (hn : hf n = some ob) (hver : ob.ver = ver) (hlen : o + cnt * z ≤ ob.cells.length)
    {vlo vhi : Option AV} {xlo xhi : Option Value} (hlo : OR C vlo xlo) (hhi : OR C vhi xhi)
    {l hh : Nat} {p : Prop} (hb : bounds cnt vlo vhi = some (l, hh, p)) (hp : p) : OpOk P C hf wr base nm (vS (Instr.sliceAt t x xlo xhi none)) w (.rs n ver (o + l * z) (hh - l) z) [] := by
  have hal := (h.live n ob hn).1
  have hcur := (h.live n ob hn).2
  have e := inv_p hx h hn hver
  subst e
  obtain ⟨hrun, h1, h2⟩ := run_bounds (P := P) (w := w) (sl := false) (cap := cnt) hb hp hlo hhi (Nat.le_refl _)
  obtain ⟨cs, el, hh1, hh2, hh3, -⟩ := h.obj n ob hn
  refine .val h (val := .slice (some (if cnt = l then ⟨C.mu n, o, none⟩ else (⟨C.mu n, o, none⟩ : Addr).add (l * z))) (hh - l) (cnt - l)) ?_ ?_
  · simp only [Instr.sliceAt, Sem.run_bind, run_underlying ht, Result.andThen, Sem.run_pure, Instr.sureAddr, hrun, sizeT_run hz]
  · have h5 : l * z + (cnt - l) * z = cnt * z := by rw [← Nat.add_mul]; congr 1; omega
    have key : ∀ c, C.cur n = some c → ver ≤ c ∧ (ver = c → C.mu n = C.mu n ∧ o + l * z + (cnt - l) * z ≤ C.sz n) := by
      intro c hc
      rw [hcur] at hc; injection hc with hc; subst hc
      exact ⟨by omega, fun _ => ⟨rfl, by omega⟩⟩
    by_cases hcl : cnt = l
    · rw [if_pos hcl]
      exact .rs n ver _ _ z _ o _ hal (by omega) (.inl (by omega)) key
    · rw [if_neg hcl, add_none]
      exact .rs n ver _ _ z _ _ _ hal (by omega) (.inr rfl) key

theorem ok_slF (h : HR C hf wr w) {t e : TypeId} (ht : P.underlying t = some (.slice e)) {z : Nat} (hz : sizeT P e = some z) {ls : List PV} {q : Option Addr} {len cap : Nat} (hx : PR C.rd (.sl ls) (.slice q len cap)) {vlo : Option AV} {xlo : Option Value} (hlo : OR C vlo xlo)
    {kh km : IntKind} {hi mx : Int} {l hh : Nat} {p : Prop} (hb : bounds ls.length vlo (some (.v (.i kh hi))) = some (l, hh, p)) (hp : p) (hm : mx = hi) (hzz : ∀ x ∈ ls, x.cells.length = z) :
    OpOk P C hf wr base nm (vS (Instr.sliceAt t (.slice q len cap) xlo (some (.int kh hi)) (some (.int km mx)))) w (.fs ((ls.take hh).drop l)) [] := by
  have hlen : len = ls.length ∧ ls.length ≤ cap := by cases hx <;> simp_all
  obtain ⟨hlen, hcap⟩ := hlen
  subst hlen; subst hm
  obtain ⟨-, h1, h2⟩ := run_bounds (P := P) (w := w) (sl := true) (cap := cap) hb hp hlo (.some (.v (.i kh mx))) hcap
  have hhe : hh = mx.toNat ∧ 0 ≤ mx ∧ mx ≤ ls.length ∧ ((vlo = none ∧ l = 0) ∨ ∃ kl lo, vlo = some (.v (.i kl lo)) ∧ l = lo.toNat ∧ 0 ≤ lo ∧ lo ≤ mx) := by
    unfold bounds at hb
    split at hb <;> simp only [Option.some.injEq, Prod.mk.injEq, reduceCtorEq] at hb
    · rename_i heq; cases heq
    · rename_i heq; cases heq
    · rename_i heq
      simp only [Option.some.injEq, AV.v.injEq, PV.i.injEq] at heq
      obtain ⟨rfl, rfl⟩ := heq
      obtain ⟨rfl, rfl, rfl⟩ := hb
      exact ⟨rfl, hp.1, hp.2, .inl ⟨rfl, rfl⟩⟩
    · rename_i kl lo _ _ heq
      simp only [Option.some.injEq, AV.v.injEq, PV.i.injEq] at heq
      obtain ⟨rfl, rfl⟩ := heq
      obtain ⟨rfl, rfl, rfl⟩ := hb
      exact ⟨rfl, by omega, by omega, .inr ⟨_, _, rfl, rfl, by omega, by omega⟩⟩
  obtain ⟨rfl, h3, h4, h5⟩ := hhe
  have hsub := hx.sub (z := z) (lo := l) (hi := mx.toNat) hzz h1 h2
  have hq : ∃ a, (if mx.toNat = l then q else q.map (·.add (l * z))) = a ∧ PR C.rd (.sl ((ls.take mx.toNat).drop l)) (.slice a (mx.toNat - l) (mx.toNat - l)) := by
    refine ⟨_, rfl, ?_⟩
    have hlen' : ((ls.take mx.toNat).drop l).length = mx.toNat - l := by simp; omega
    by_cases e : mx.toNat = l
    · rw [if_pos e]
      have h6 : (ls.take mx.toNat).drop l = [] := by apply List.eq_nil_of_length_eq_zero; omega
      rw [h6, e, Nat.sub_self]
      cases hx with
      | sl0 => exact .sl0
      | sle a cap => exact .sle a 0
      | sl l' z' vs bk of cap hc hz' h1' hl hr h => exact .sl [] 0 [] bk of 0 (by simp) (by simp) (by simp) (by simp) (by simp) (by simp)
    · rw [if_neg e]
      have e' : cap ≠ l := by omega
      rw [if_neg e'] at hsub
      generalize (ls.take mx.toNat).drop l = r at *
      generalize q.map (·.add (l * z)) = qq at *
      rw [← hlen'] at hsub ⊢
      generalize cap - l = cap' at hsub
      generalize hrr : r.length = rr at hsub ⊢
      cases hsub with
      | sl0 => exact .sl0
      | sle a cap => exact .sle a _
      | sl l' z' vs bk of cap hc hz' h1' hl hr h => exact .sl _ z' vs bk of _ (Nat.le_refl _) hz' h1' hl hr h
  obtain ⟨a, hqa, hpr⟩ := hq
  have hlen' : ((ls.take mx.toNat).drop l).length = mx.toNat - l := by simp; omega
  refine .val h (val := .slice a (mx.toNat - l) (mx.toNat - l)) ?_ ?_
  · have hb1 : (Instr.sliceBounds true ls.length cap xlo (some (.int kh mx)) (some (.int km mx))).run P w = .ok (l, mx.toNat, mx.toNat) w := by
      rcases h5 with ⟨rfl, rfl⟩ | ⟨kl, lo, rfl, rfl, h6, h7⟩
      · cases hlo
        simp only [Instr.sliceBounds, Sem.run_bind, Sem.run_pure, Result.andThen]
        rw [run_sliceBound _ _ _ _ _ h3 (by omega)]
        simp only [Result.andThen]
        rw [run_sliceBound _ _ _ _ _ h3 (by omega)]
      · cases hlo with | some h8 => ?_
        have e := inv_i h8; subst e
        simp only [Instr.sliceBounds, Sem.run_bind, Sem.run_pure, Result.andThen]
        rw [run_sliceBound _ _ _ _ _ h3 (by omega)]
        simp only [Result.andThen]
        rw [run_sliceBound _ _ _ _ _ h3 (by omega)]
        simp only [Result.andThen]
        rw [run_sliceBound _ _ _ _ _ h6 (by omega)]
    simp only [Instr.sliceAt, Instr.slice, Sem.run_bind, run_underlying ht, Result.andThen, Sem.run_pure, hb1, sizeT_run hz, hqa]
  · have := AR.fs (C := C) ((ls.take mx.toNat).drop l) a (by rw [hlen']; exact hpr)
    rw [hlen'] at this; exact this

end
end Go.Dom
