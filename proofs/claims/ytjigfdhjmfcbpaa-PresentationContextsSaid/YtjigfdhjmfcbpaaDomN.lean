/-
  THE ABSTRACT OPERATIONS ARE RIGHT, NINTH PART: slice literals, copy. Own work; generic over the program.
-/
import Derived.Test.YtjigfdhjmfcbpaaDomM
set_option linter.all false
namespace Go.Dom
open Go.RowKit

theorem fill_seq (z : Nat) : ∀ (ps : List Value) (k : Nat) (cs : Array Value), (∀ v ∈ ps, v.cells.size = z) → cs.size = (k + ps.length) * z →
    Instr.fill (fun i => some (i * z, z)) cs ((ps.zipIdx k).map fun p => (p.2, p.1)) = some (cs.toList.take (k * z) ++ ps.flatMap (fun v => v.cells.toList)).toArray := by
  intro ps
  induction ps with
  | nil =>
    intro k cs _ hs
    simp only [List.zipIdx_nil, List.map_nil, Instr.fill, List.flatMap_nil, List.append_nil]
    rw [List.take_of_length_le (by simp at hs ⊢; omega)]
  | cons v ps ih =>
    intro k cs hv hs
    have hvz : v.cells.size = z := hv v (by simp)
    rw [List.zipIdx_cons, List.map_cons]
    simp only [Instr.fill, hvz]
    have hfit : k * z + z ≤ cs.size := by
      rw [hs]
      have : (k + 1) * z ≤ (k + (v :: ps).length) * z := Nat.mul_le_mul_right _ (by simp)
      rw [Nat.add_mul] at this; omega
    rw [if_neg (by simp; omega)]
    have hset := set_cells_arr (k * z) v.cells.toList cs (by simpa [hvz] using hfit)
    simp only [Array.toArray_toList] at hset
    rw [hset]
    rw [ih (k + 1) _ (fun u hu => hv u (by simp [hu])) (by
      have hl : v.cells.toList.length = z := by simpa using hvz
      simp only [List.size_toArray, List.length_append, List.length_take, List.length_drop, hl, Array.length_toList]
      rw [hs] at hfit ⊢
      simp only [List.length_cons] at hfit ⊢
      have e : (k + 1 + ps.length) * z = (k + (ps.length + 1)) * z := by congr 1; omega
      rw [e]; omega)]
    congr 2
    have hl : v.cells.toList.length = z := by simpa using hvz
    have ht : (cs.toList.take (k * z)).length = k * z := by simp; omega
    rw [List.flatMap_cons, ← List.append_assoc]
    congr 1
    have e1 : (k + 1) * z - k * z = z := by rw [Nat.add_mul]; omega
    have e2 : (cs.toList.take (k * z)).take ((k + 1) * z) = cs.toList.take (k * z) := List.take_of_length_le (by rw [ht, Nat.add_mul]; omega)
    have e3 : v.cells.toList.take z = v.cells.toList := List.take_of_length_le (by omega)
    rw [List.append_assoc, List.take_append, ht, List.take_append, hl, e1, e2, e3]
    simp

theorem zip_of_range {α : Type} (l : List (Nat × α)) (n : Nat) (h : l.map (·.1) = List.range n) : l = ((l.map (·.2)).zipIdx).map fun p => (p.2, p.1) := by
  have hl : l.length = n := by have := congrArg List.length h; simpa using this
  apply List.ext_getElem?
  intro k
  rw [List.getElem?_map, List.getElem?_zipIdx, List.getElem?_map]
  cases hk : l[k]? with
  | none => simp
  | some p =>
    have hlt : k < l.length := (List.getElem?_eq_some_iff.1 hk).1
    have h1 : (l.map (·.1))[k]? = some p.1 := by simp [hk]
    rw [h] at h1
    have h2 : p.1 = k := by
      rw [List.getElem?_range (by omega)] at h1
      injection h1 with h1; exact h1.symm
    simp [← h2]

section
variable {P : Program} {C : Cx} {hf : Nat → Option AObj} {wr : Nat → Prop} {base nm : Nat} {w : World} {tf : Nat → AV}

theorem run_bsl {t e : TypeId} (ht : P.underlying t = some (.slice e)) {z : Nat} (hz : sizeT P e = some z) {ze : List AV} (hze : zeroC P e = some ze) {n : Nat} (hn : n * z ≤ 16777216) {ps : Array (Nat × Value)} (hps : ps.toList.map (·.1) = List.range n) (hv : ∀ p ∈ ps.toList, p.2.cells.size = z) :
    (Instr.buildSlice t n ps).run P w = .ok (.slice (some ⟨w.heap.size, 0, none⟩) n n) (w.alloc (.cells ((ps.toList.map (·.2)).flatMap fun v => v.cells.toList).toArray e)) := by
  obtain ⟨zv, hzv, -, -⟩ := zeroC_run (C := ⟨fun _ _ => none, fun _ => True, fun _ => none, fun _ => 0, fun _ => 0⟩) hze
  have hl : ps.toList.length = n := by have := congrArg List.length hps; simpa using this
  have key : ∀ zero : Array Value, Instr.fill (fun i => some (i * z, z)) ((Array.range (n * z)).map (zero[· % zero.size]!)) ps.toList = some ((ps.toList.map (·.2)).flatMap fun v => v.cells.toList).toArray := by
    intro zero
    have hzr := zip_of_range ps.toList n hps
    have := fill_seq z (ps.toList.map (·.2)) 0 ((Array.range (n * z)).map (zero[· % zero.size]!)) (by
      intro v hv'
      obtain ⟨p, hp, rfl⟩ := List.mem_map.1 hv'
      exact hv p hp) (by simp [hl])
    rw [← hzr] at this
    rw [this]
    simp
  have hnn : ¬ (n * z > 2 ^ 24) := by omega
  by_cases h0 : n * z = 0
  · have hk := key #[]
    rw [h0] at hk
    have h00 : ¬ ((0 : Nat) > 2 ^ 24) := by omega
    simp only [Instr.buildSlice, Sem.run_bind, run_underlying ht, Result.andThen, sizeT_run hz, h0, if_true]
    rw [if_neg h00]
    simp only [Sem.run_bind, Sem.run_pure, Result.andThen, hk, newRow, run_newObj]; rfl
  · simp only [Instr.buildSlice, Sem.run_bind, run_underlying ht, Result.andThen, sizeT_run hz]
    rw [if_neg hnn]
    simp only [Sem.run_bind, Sem.run_pure, Result.andThen, h0, if_false, hzv, key, newRow, run_newObj]; rfl

theorem PR.cells {rd : Rd} {y : PV} {v : Value} (h : PR rd y v) (hk : ∀ l, y ≠ .tup l) : ∃ us : List Value, v.cells = us.toArray ∧ RelL (PR rd) y.cells us ∧ ∀ c ∈ y.cells, c.one = true := by
  cases h with
  | agg l vs h1 hl h => exact ⟨vs, rfl, ⟨hl, h⟩, h1⟩
  | tup l vs hl h => exact absurd rfl (hk l)
  | b x => exact ⟨[_], rfl, .cons (.b x) .nil, by simp [PV.cells, PV.one]⟩
  | i k n => exact ⟨[_], rfl, .cons (.i k n) .nil, by simp [PV.cells, PV.one]⟩
  | s x => exact ⟨[_], rfl, .cons (.s x) .nil, by simp [PV.cells, PV.one]⟩
  | sl0 => exact ⟨[_], rfl, .cons .sl0 .nil, by simp [PV.cells, PV.one]⟩
  | sle a cap => exact ⟨[_], rfl, .cons (.sle a cap) .nil, by simp [PV.cells, PV.one]⟩
  | sl l z vs bk of cap hc hz h1 hl hr h => exact ⟨[_], rfl, .cons (.sl l z vs bk of cap hc hz h1 hl hr h) .nil, by simp [PV.cells, PV.one]⟩
  | fn f => exact ⟨[_], rfl, .cons (.fn f) .nil, by simp [PV.cells, PV.one]⟩
  | fn0 => exact ⟨[_], rfl, .cons .fn0 .nil, by simp [PV.cells, PV.one]⟩
  | p0 => exact ⟨[_], rfl, .cons .p0 .nil, by simp [PV.cells, PV.one]⟩
  | if0 => exact ⟨[_], rfl, .cons .if0 .nil, by simp [PV.cells, PV.one]⟩
  | ifc t x v h => exact ⟨[_], rfl, .cons (.ifc t x v h) .nil, by simp [PV.cells, PV.one]⟩

theorem pv1_ok {x : AV} {y : PV} {v : Value} (h : AR C x v) (hx : x.pv1 = some y) : PR C.rd y v := by
  unfold AV.pv1 at hx
  split at hx <;> simp only [Option.some.injEq, reduceCtorEq] at hx <;> subst hx
  · cases h with | v h => exact h
  · cases h with | fs l a h => exact h
  · cases h; exact .sl0
  · cases h with
    | fn f a c va vc hla hlc ha hc =>
      have e1 : va = [] := List.eq_nil_of_length_eq_zero (by simpa using hla.symm)
      have e2 : vc = [] := List.eq_nil_of_length_eq_zero (by simpa using hlc.symm)
      subst e1; subst e2
      exact .fn _

theorem pv1_one {x : AV} {y : PV} (hx : x.pv1 = some y) (h1 : x.one = true) : y.one = true := by
  unfold AV.pv1 at hx
  split at hx <;> simp only [Option.some.injEq, reduceCtorEq] at hx <;> subst hx
  · exact h1
  · rfl
  · rfl
  · rfl

theorem pvs_ok {l : List AV} {ys : List PV} {vs : List Value} (h : RelL (AR C) l vs) (hl : mapO AV.pv1 l = some ys) (h1 : l.all AV.one = true) : RelL (PR C.rd) ys vs ∧ ∀ y ∈ ys, y.one = true := by
  obtain ⟨m1, m2⟩ := mapO_some hl
  have hg : ∀ (k : Nat) (y : PV), ys[k]? = some y → ∃ x, l[k]? = some x ∧ x.pv1 = some y := by
    intro k y hy
    have hk : k < l.length := by have := (List.getElem?_eq_some_iff.1 hy).1; omega
    exact ⟨l[k], by simp [hk], m2 k _ y (by simp [hk]) hy⟩
  refine ⟨⟨by rw [← m1]; exact h.1, fun k y v hy hv => ?_⟩, fun y hy => ?_⟩
  · obtain ⟨x, hx, hxy⟩ := hg k y hy
    exact pv1_ok (h.2 k x v hx hv) hxy
  · obtain ⟨k, hk, rfl⟩ := List.getElem_of_mem hy
    obtain ⟨x, hx, hxy⟩ := hg k ys[k] (by simp [hk])
    rw [List.all_eq_true] at h1
    exact pv1_one hxy (h1 x (List.mem_of_getElem? hx))

theorem pvL_ok {l : List AV} {ys : List PV} {vs : List Value} (h : RelL (AR C) l vs) (hl : AV.pvL l = some ys) : RelL (PR C.rd) ys vs ∧ ∀ y ∈ ys, ∀ m, y ≠ .tup m := by
  unfold AV.pvL at hl
  obtain ⟨m1, m2⟩ := mapO_some hl
  have hg : ∀ (k : Nat) (y : PV), ys[k]? = some y → ∃ x, l[k]? = some x ∧ (match x with
    | .agg l => if l.all AV.one then (mapO AV.pv1 l).map PV.agg else none
    | x => if x.okc then x.pv1 else none) = some y := by
    intro k y hy
    have hk : k < l.length := by have := (List.getElem?_eq_some_iff.1 hy).1; omega
    exact ⟨l[k], by simp [hk], m2 k _ y (by simp [hk]) hy⟩
  have hone : ∀ (x : AV) (y : PV) (v : Value), AR C x v → (match x with
    | .agg l => if l.all AV.one then (mapO AV.pv1 l).map PV.agg else none
    | x => if x.okc then x.pv1 else none) = some y → PR C.rd y v ∧ ∀ m, y ≠ .tup m := by
    intro x y v hxv hxy
    by_cases hag : ∃ m, x = .agg m
    · obtain ⟨m, rfl⟩ := hag
      simp only at hxy
      split at hxy
      · rename_i hall
        simp only [Option.map_eq_some_iff] at hxy
        obtain ⟨zs, hzs, rfl⟩ := hxy
        cases hxv with
        | agg _ us hl' h' =>
          obtain ⟨p1, p2⟩ := pvs_ok ⟨hl', h'⟩ hzs hall
          exact ⟨.agg zs us p2 p1.1 p1.2, by simp⟩
      · cases hxy
    · have hxy' : (if x.okc then x.pv1 else none) = some y := by
        cases x <;> first | exact hxy | exact absurd ⟨_, rfl⟩ hag
      clear hxy
      have hxy := hxy'
      split at hxy
      · rename_i hok
        refine ⟨pv1_ok hxv hxy, ?_⟩
        intro m hm
        subst hm
        unfold AV.pv1 at hxy
        split at hxy <;> simp only [Option.some.injEq, reduceCtorEq] at hxy
        subst hxy
        simp [AV.okc] at hok
      · cases hxy
  refine ⟨⟨by rw [← m1]; exact h.1, fun k y v hy hv => ?_⟩, fun y hy => ?_⟩
  · obtain ⟨x, hx, hxy⟩ := hg k y hy
    exact (hone x y v (h.2 k x v hx hv) hxy).1
  · obtain ⟨k, hk, rfl⟩ := List.getElem_of_mem hy
    obtain ⟨x, hx, hxy⟩ := hg k ys[k] (by simp [hk])
    obtain ⟨v, -, hv⟩ := h.get hx
    exact (hone x _ v hv hxy).2

theorem rel_flat_p {rd : Rd} {xs : List PV} {vs : List Value} (h : RelL (PR rd) xs vs) (hk : ∀ y ∈ xs, ∀ m, y ≠ .tup m) : RelL (PR rd) (xs.flatMap PV.cells) (vs.flatMap fun v => v.cells.toList) ∧ ∀ c ∈ xs.flatMap PV.cells, c.one = true := by
  induction xs generalizing vs with
  | nil => rw [h.nil_inv]; exact ⟨.nil, by simp⟩
  | cons x xs ih =>
    obtain ⟨v, us, rfl, h1, h2⟩ := h.uncons
    obtain ⟨i1, i2⟩ := ih h2 fun y hy => hk y (by simp [hy])
    obtain ⟨ws, hw, hr, ho⟩ := h1.cells (hk x (by simp))
    rw [List.flatMap_cons, List.flatMap_cons, hw]
    refine ⟨hr.append i1, fun c hc => ?_⟩
    rcases List.mem_append.1 hc with hc | hc
    · exact ho c hc
    · exact i2 c hc

theorem rel_flat_a {xs : List AV} {vs : List Value} (h : RelL (AR C) xs vs) (hk : ∀ y ∈ xs, y.okc = true) : RelL (AR C) (xs.flatMap AV.cells) (vs.flatMap fun v => v.cells.toList) := by
  induction xs generalizing vs with
  | nil => rw [h.nil_inv]; exact .nil
  | cons x xs ih =>
    obtain ⟨v, us, rfl, h1, h2⟩ := h.uncons
    have i1 := ih h2 fun y hy => hk y (by simp [hy])
    obtain ⟨ws, hw, hr, -⟩ := h1.cells (hk x (by simp))
    rw [List.flatMap_cons, List.flatMap_cons, hw]
    exact hr.append i1

theorem ok_bsl_pure (h : HR C hf wr w) (hbase : base ≤ w.heap.size) {t e : TypeId} (ht : P.underlying t = some (.slice e)) {z : Nat} (hz : sizeT P e = some z) {ze : List AV} (hze : zeroC P e = some ze) {n : Nat} (hn : n * z ≤ 16777216) {ps : Array (Nat × Value)} (hps : ps.toList.map (·.1) = List.range n)
    {l : List AV} (hr : RelL (AR C) l (ps.toList.map (·.2))) {xs : List PV} (hxs : AV.pvL l = some xs) (hc : ∀ x ∈ xs, x.cells.length = z) :
    OpOk P C hf wr base nm (vS (Instr.buildSlice t n ps)) w (.fs xs) [] := by
  obtain ⟨hp, hnt⟩ := pvL_ok hr hxs
  have hpl : ps.toList.length = n := by have := congrArg List.length hps; simpa using this
  have hxl : xs.length = n := by have := hp.1; rw [List.length_map] at this; omega
  have hv : ∀ p ∈ ps.toList, p.2.cells.size = z := by
    intro p hp'
    obtain ⟨k, hk, rfl⟩ := List.getElem_of_mem hp'
    have hkx : k < xs.length := by omega
    have := hp.2 k xs[k] (ps.toList[k]).2 (by simp [hkx]) (by simp only [List.getElem?_map, List.getElem?_eq_getElem hk, Option.map_some])
    obtain ⟨us, hu, hru, -⟩ := this.cells (hnt _ (List.getElem_mem hkx))
    rw [hu, List.size_toArray, ← hru.1, hc _ (List.getElem_mem hkx)]
  have hrun := run_bsl (P := P) (w := w) ht hz hze hn hps hv
  obtain ⟨hrf, hone⟩ := rel_flat_p hp hnt
  let vs := (ps.toList.map (·.2)).flatMap fun v => v.cells.toList
  have hle := Cx.le_newPure h nm vs.toArray
  refine ⟨.slice (some ⟨w.heap.size, 0, none⟩) n n, w.alloc (.cells vs.toArray e), C.newPure w nm vs.toArray, .inl (by simp only [vS, Sem.run_bind, hrun, Result.andThen, Sem.run_pure]; rfl), ?_, ?_, hle, fun _ => Iff.rfl, Wf.alloc _ _ _, ?_, .mu rfl⟩
  · rw [← hxl]
    refine .fs xs _ (.sl xs z vs w.heap.size 0 xs.length (Nat.le_refl _) hc hone hrf.1 ?_ ?_)
    · intro k v hv
      simp only [Cx.newPure, if_true, Nat.zero_add]
      simpa using hv
    · intro k x v hx hv
      exact (hrf.2 k x v hx hv).mono hle.rd
  · exact h.newPure nm vs.toArray e
  · intro b hb
    funext o
    have : b ≠ w.heap.size := by omega
    simp [Cx.newPure, this]

theorem ok_bsl_obj (h : HR C hf wr w) (hnm : ¬ C.al nm) (hwr : ∀ b, base ≤ b → wr b) (hbase : base ≤ w.heap.size) {t e : TypeId} (ht : P.underlying t = some (.slice e)) {z : Nat} (hz : sizeT P e = some z) {ze : List AV} (hze : zeroC P e = some ze) {n : Nat} (hn : n * z ≤ 16777216) {ps : Array (Nat × Value)} (hps : ps.toList.map (·.1) = List.range n)
    {l : List AV} (hr : RelL (AR C) l (ps.toList.map (·.2))) (hc : ∀ x ∈ l, x.okc = true ∧ x.cells.length = z) :
    OpOk P C hf wr base nm (vS (Instr.buildSlice t n ps)) w (.rs nm 0 0 n z) [(nm, some ⟨0, l.flatMap AV.cells, false, none⟩)] := by
  have hpl : ps.toList.length = n := by have := congrArg List.length hps; simpa using this
  have hxl : l.length = n := by have := hr.1; rw [List.length_map] at this; omega
  have hv : ∀ p ∈ ps.toList, p.2.cells.size = z := by
    intro p hp'
    obtain ⟨k, hk, rfl⟩ := List.getElem_of_mem hp'
    have hkx : k < l.length := by omega
    have := hr.2 k l[k] (ps.toList[k]).2 (by simp [hkx]) (by simp only [List.getElem?_map, List.getElem?_eq_getElem hk, Option.map_some])
    obtain ⟨us, hu, hru, -⟩ := this.cells (hc _ (List.getElem_mem hkx)).1
    rw [hu, List.size_toArray, ← hru.1, (hc _ (List.getElem_mem hkx)).2]
  have hrun := run_bsl (P := P) (w := w) ht hz hze hn hps hv
  have hrf := rel_flat_a hr fun y hy => (hc y hy).1
  have hfl : ((ps.toList.map (·.2)).flatMap fun v => v.cells.toList).length = n * z := by
    rw [← hrf.1]
    clear hrf hr hrun hv hpl
    subst hxl
    induction l with
    | nil => simp
    | cons x l ih =>
      rw [List.flatMap_cons, List.length_append, (hc x (by simp)).2]
      have hps' : True := trivial
      have : (l.flatMap AV.cells).length = l.length * z := by
        clear ih hps hn
        induction l with
        | nil => simp
        | cons y l ih => rw [List.flatMap_cons, List.length_append, (hc y (by simp)).2, ih fun a ha => hc a (by rcases List.mem_cons.1 ha with rfl | ha <;> simp [*]), List.length_cons, Nat.succ_mul]; omega
      rw [this, List.length_cons, Nat.succ_mul]; omega
  refine ok_new h hnm hwr hbase (.inl rfl) (vs := ((ps.toList.map (·.2)).flatMap fun v => v.cells.toList).toArray) (el := e) (val := .slice (some ⟨w.heap.size, 0, none⟩) n n) (.inl (by simp only [vS, Sem.run_bind, hrun, Result.andThen, Sem.run_pure])) (by have := hrf.1; simpa using Nat.le_of_eq this) (fun _ => by simpa using hrf.1) (fun k x v hx hv => hrf.2 k x v hx (by simpa using hv)) ?_
  refine .rs nm 0 0 n z _ 0 n (.inr rfl) (Nat.le_refl _) (.inr rfl) fun cc hcc => ?_
  simp only [Cx.newObj, if_true] at hcc ⊢
  exact ⟨Nat.zero_le _, fun _ => ⟨trivial, by rw [List.size_toArray, hfl]; omega⟩⟩

end
end Go.Dom
