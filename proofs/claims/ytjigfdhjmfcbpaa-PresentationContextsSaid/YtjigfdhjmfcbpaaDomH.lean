/-
  THE ABSTRACT OPERATIONS ARE RIGHT, THIRD PART: slices, indexes, fields. Own work; generic over the program.
-/
import Derived.Test.YtjigfdhjmfcbpaaDomG
set_option linter.all false
namespace Go.Dom
open Go.RowKit

/-- Options that stand to one another. -/
inductive OR (C : Cx) : Option AV → Option Value → Prop where
  | none : OR C none none
  | some {x : AV} {v : Value} (h : AR C x v) : OR C (some x) (some v)

theorem flat_get {l : List PV} {z : Nat} (hz : ∀ x ∈ l, x.cells.length = z) {i : Nat} (hi : i < l.length) : ((l.flatMap PV.cells).drop (i * z)).take z = l[i].cells := by
  induction l generalizing i with
  | nil => simp at hi
  | cons x l ih =>
    have hx : x.cells.length = z := hz x (by simp)
    cases i with
    | zero => simp [List.flatMap_cons, ← hx]
    | succ i =>
      rw [List.flatMap_cons, Nat.succ_mul, Nat.add_comm, ← List.drop_drop]
      have : (x.cells ++ l.flatMap PV.cells).drop z = l.flatMap PV.cells := by rw [← hx]; simp
      rw [this]
      simpa using ih (fun y hy => hz y (by simp [hy])) (by simpa using hi)

theorem flat_len {l : List PV} {z : Nat} (hz : ∀ x ∈ l, x.cells.length = z) : (l.flatMap PV.cells).length = l.length * z := by
  induction l with
  | nil => simp
  | cons x l ih =>
    rw [List.flatMap_cons, List.length_append, hz x (by simp), ih fun y hy => hz y (by simp [hy])]
    simp [Nat.succ_mul]; omega

theorem flat_take {l : List PV} {z : Nat} (hz : ∀ x ∈ l, x.cells.length = z) (h : Nat) : (l.take h).flatMap PV.cells = (l.flatMap PV.cells).take (h * z) := by
  induction l generalizing h with
  | nil => simp
  | cons x l ih =>
    cases h with
    | zero => simp
    | succ h =>
      have hx : x.cells.length = z := hz x (by simp)
      rw [List.take_succ_cons, List.flatMap_cons, List.flatMap_cons, List.take_append, ih fun y hy => hz y (by simp [hy])]
      have e1 : x.cells.take ((h + 1) * z) = x.cells := List.take_of_length_le (by rw [hx, Nat.succ_mul]; omega)
      have e2 : (h + 1) * z - z = h * z := by rw [Nat.succ_mul]; omega
      rw [e1, hx, e2]

theorem flat_drop {l : List PV} {z : Nat} (hz : ∀ x ∈ l, x.cells.length = z) (h : Nat) : (l.drop h).flatMap PV.cells = (l.flatMap PV.cells).drop (h * z) := by
  induction l generalizing h with
  | nil => simp
  | cons x l ih =>
    cases h with
    | zero => simp
    | succ h =>
      have hx : x.cells.length = z := hz x (by simp)
      rw [List.drop_succ_cons, List.flatMap_cons, List.drop_append, ih fun y hy => hz y (by simp [hy])]
      have e1 : x.cells.drop ((h + 1) * z) = [] := List.drop_of_length_le (by rw [hx, Nat.succ_mul]; omega)
      have e2 : (h + 1) * z - z = h * z := by rw [Nat.succ_mul]; omega
      rw [e1, hx, e2, List.nil_append]

theorem PR.sub {rd : Rd} {l : List PV} {q : Option Addr} {len cap : Nat} (h : PR rd (.sl l) (.slice q len cap)) {z lo hi : Nat} (hz : ∀ x ∈ l, x.cells.length = z) (h1 : lo ≤ hi) (h2 : hi ≤ l.length) :
    PR rd (.sl ((l.take hi).drop lo)) (.slice (if cap = lo then q else q.map (·.add (lo * z))) (hi - lo) (cap - lo)) := by
  cases h with
  | sl0 =>
    simp at h2
    have h3 : hi = 0 := h2
    have h4 : lo = 0 := by omega
    subst h3; subst h4
    simpa using PR.sl0
  | sle a cap =>
    simp at h2
    have h3 : hi = 0 := h2
    have h4 : lo = 0 := by omega
    subst h3; subst h4
    have e : a.add 0 = a := by simp [Addr.add]
    have := PR.sle (rd := rd) a cap
    by_cases hc : cap = 0
    · subst hc; simpa using this
    · simpa [hc, e] using this
  | sl l z' vs bk of cap hc hz' h1' hl hr h =>
    have hlen : ((l.take hi).drop lo).length = hi - lo := by simp; omega
    have hfl := flat_len hz
    have hsub : ((l.take hi).drop lo).flatMap PV.cells = ((l.flatMap PV.cells).take (hi * z)).drop (lo * z) := by
      rw [flat_drop (z := z) (fun x hx => hz x (List.mem_of_mem_take hx)), flat_take hz]
    have hrel : RelL (PR rd) (l.flatMap PV.cells) vs := ⟨hl, h⟩
    have hrel' := (hrel.take (hi * z)).drop (lo * z)
    by_cases hcap : cap = lo
    · have h3 : hi - lo = 0 := by omega
      rw [if_pos hcap, h3]
      have h4 : (l.take hi).drop lo = [] := by apply List.eq_nil_of_length_eq_zero; omega
      rw [h4]
      exact .sl [] 0 [] bk of (cap - lo) (by simp) (by simp) (by simp) (by simp) (by simp) (by simp)
    · rw [if_neg hcap]
      simp only [Option.map_some, add_none]
      have := PR.sl (rd := rd) ((l.take hi).drop lo) z ((vs.take (hi * z)).drop (lo * z)) bk (of + lo * z) (cap - lo) (by omega)
        (fun x hx => hz x (List.mem_of_mem_take (List.mem_of_mem_drop hx)))
        (by rw [hsub]; exact fun y hy => h1' y (List.mem_of_mem_take (List.mem_of_mem_drop hy)))
        (by rw [hsub]; exact hrel'.1)
        (by
          intro k v hv
          rw [List.getElem?_drop, List.getElem?_take] at hv
          split at hv
          · rw [Nat.add_assoc]; exact hr _ _ hv
          · cases hv)
        (by rw [hsub]; exact hrel'.2)
      rw [hlen] at this
      exact this

section
variable {P : Program} {C : Cx} {hf : Nat → Option AObj} {wr : Nat → Prop} {base nm : Nat} {w : World} {tf : Nat → AV}

theorem run_bounds {sl : Bool} {len cap : Nat} {vlo vhi : Option AV} {xlo xhi : Option Value} {l h : Nat} {p : Prop} (hb : bounds len vlo vhi = some (l, h, p)) (hp : p) (hlo : OR C vlo xlo) (hhi : OR C vhi xhi) (hc : len ≤ cap) :
    (Instr.sliceBounds sl len cap xlo xhi none).run P w = .ok (l, h, cap) w ∧ l ≤ h ∧ h ≤ len := by
  unfold bounds at hb
  split at hb
  · simp only [Option.some.injEq, Prod.mk.injEq] at hb
    obtain ⟨rfl, rfl, rfl⟩ := hb
    cases hlo; cases hhi
    exact ⟨by simp [Instr.sliceBounds], by omega, by omega⟩
  · simp only [Option.some.injEq, Prod.mk.injEq] at hb
    obtain ⟨rfl, rfl, rfl⟩ := hb
    cases hlo with | some h1 => ?_
    cases hhi
    have e := inv_i h1; subst e
    refine ⟨?_, by omega, by omega⟩
    simp only [Instr.sliceBounds, Sem.run_bind, Sem.run_pure, Result.andThen]
    rw [run_sliceBound _ _ _ _ _ hp.1 hp.2]
  · simp only [Option.some.injEq, Prod.mk.injEq] at hb
    obtain ⟨rfl, rfl, rfl⟩ := hb
    cases hlo
    cases hhi with | some h1 => ?_
    have e := inv_i h1; subst e
    refine ⟨?_, by omega, by omega⟩
    simp only [Instr.sliceBounds, Sem.run_bind, Sem.run_pure, Result.andThen]
    rw [run_sliceBound _ _ _ _ _ hp.1 (by omega)]
  · simp only [Option.some.injEq, Prod.mk.injEq] at hb
    obtain ⟨rfl, rfl, rfl⟩ := hb
    cases hlo with | some h1 => ?_
    cases hhi with | some h2 => ?_
    have e := inv_i h1; subst e
    have e := inv_i h2; subst e
    refine ⟨?_, by omega, by omega⟩
    simp only [Instr.sliceBounds, Sem.run_bind, Sem.run_pure, Result.andThen]
    rw [run_sliceBound _ _ _ _ _ (by omega) (by omega)]
    simp only [Result.andThen]
    rw [run_sliceBound _ _ _ _ _ (by omega) (by omega)]
  · cases hb

theorem ok_slS (h : HR C hf wr w) {t : TypeId} (ht : P.underlying t = some .string) {b : Bytes} {x : Value} (hx : AR C (.v (.s b)) x) {vlo vhi : Option AV} {xlo xhi : Option Value} (hlo : OR C vlo xlo) (hhi : OR C vhi xhi)
    {l hh : Nat} {p : Prop} (hb : bounds b.length vlo vhi = some (l, hh, p)) (hp : p) : OpOk P C hf wr base nm (vS (Instr.sliceAt t x xlo xhi none)) w (.v (.s ((b.take hh).drop l))) [] := by
  have e := inv_s hx; subst e
  have es : (ByteArray.mk b.toArray).size = b.length := by simp [ByteArray.size]
  obtain ⟨hrun, h1, h2⟩ := run_bounds (P := P) (w := w) (sl := false) (cap := b.length) hb hp hlo hhi (Nat.le_refl _)
  refine .val h (val := .string ⟨((b.take hh).drop l).toArray⟩) ?_ (.v (.s _))
  have hx : (ByteArray.mk b.toArray).extract l hh = ⟨((b.take hh).drop l).toArray⟩ := by
    apply ByteArray.ext
    simp [List.drop_take]
  simp only [Instr.sliceAt, Instr.slice, Sem.run_bind, run_underlying ht, Result.andThen, Option.isSome_none, Bool.false_eq_true, if_false, Sem.run_pure, es, hrun, hx]

theorem ok_slL (h : HR C hf wr w) {t e : TypeId} (ht : P.underlying t = some (.slice e)) {z : Nat} (hz : sizeT P e = some z) {ls : List PV} {q : Option Addr} {len cap : Nat} (hx : PR C.rd (.sl ls) (.slice q len cap)) {vlo vhi : Option AV} {xlo xhi : Option Value} (hlo : OR C vlo xlo) (hhi : OR C vhi xhi)
    {l hh : Nat} {p : Prop} (hb : bounds ls.length vlo vhi = some (l, hh, p)) (hp : p) (hzz : ∀ x ∈ ls, x.cells.length = z) : OpOk P C hf wr base nm (vS (Instr.sliceAt t (.slice q len cap) xlo xhi none)) w (.v (.sl ((ls.take hh).drop l))) [] := by
  have hlen : len = ls.length ∧ ls.length ≤ cap := by cases hx <;> simp_all
  obtain ⟨hlen, hcap⟩ := hlen
  subst hlen
  obtain ⟨hrun, h1, h2⟩ := run_bounds (P := P) (w := w) (sl := true) (cap := cap) hb hp hlo hhi hcap
  refine .val h (val := .slice (if cap = l then q else q.map (·.add (l * z))) (hh - l) (cap - l)) ?_ (.v (hx.sub hzz h1 h2))
  simp only [Instr.sliceAt, Instr.slice, Sem.run_bind, run_underlying ht, Result.andThen, Sem.run_pure, hrun, sizeT_run hz]

end
end Go.Dom
