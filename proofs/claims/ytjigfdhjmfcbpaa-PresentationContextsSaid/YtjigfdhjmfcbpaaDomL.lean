/-
  THE ABSTRACT OPERATIONS ARE RIGHT, SEVENTH PART: composite literals, make. Own work; generic over the program.
-/
import Derived.Test.YtjigfdhjmfcbpaaDomK
import Derived.Laws.MakeOwn
set_option linter.all false
namespace Go.Dom
open Go.RowKit

theorem set_cells (off : Nat) (vs : List Value) : ∀ (k : Nat) (cs : Array Value), off + k + vs.length ≤ cs.size →
    (vs.zipIdx k).foldl (fun (cs : Array Value) (p : Value × Nat) => cs.setIfInBounds (off + p.2) p.1) cs = (cs.toList.take (off + k) ++ vs ++ cs.toList.drop (off + k + vs.length)).toArray := by
  induction vs with
  | nil => intro k cs h; simp
  | cons v vs ih =>
    intro k cs h
    simp only [List.length_cons] at h
    rw [List.zipIdx_cons, List.foldl_cons, ih (k + 1) _ (by simp; omega)]
    apply Array.ext'
    have hlt : off + k < cs.toList.length := by simp; omega
    simp only [Array.toList_setIfInBounds]
    have e1 : (cs.toList.set (off + k) v).take (off + (k + 1)) = cs.toList.take (off + k) ++ [v] := by
      rw [← Nat.add_assoc, List.take_succ_eq_append_getElem (by simpa using hlt)]
      simp [List.take_set_of_le]
    have e2 : (cs.toList.set (off + k) v).drop (off + (k + 1) + vs.length) = cs.toList.drop (off + k + (v :: vs).length) := by
      rw [List.drop_set_of_lt (by omega)]
      congr 1
      simp only [List.length_cons]; omega
    rw [e1, e2]
    simp

theorem set_cells_arr (off : Nat) (vs : List Value) (cs : Array Value) (h : off + vs.length ≤ cs.size) :
    (vs.toArray.zipIdx).foldl (fun (cs : Array Value) (p : Value × Nat) => cs.setIfInBounds (off + p.2) p.1) cs = (cs.toList.take off ++ vs ++ cs.toList.drop (off + vs.length)).toArray := by
  have := set_cells off vs 0 cs (by simpa using h)
  simpa using this

section
variable {P : Program} {C : Cx} {hf : Nat → Option AObj} {wr : Nat → Prop} {base nm : Nat} {w : World} {tf : Nat → AV}

theorem fill_ok (place : Nat → Option (Nat × Nat)) : ∀ (ps : List (Nat × Value)) (qs : List (Nat × Nat × AV)) (cells : List AV) (cs : Array Value), RelL (AR C) cells cs.toList → ps.length = qs.length →
    (∀ (k : Nat) (p : Nat × Value) (q : Nat × Nat × AV), ps[k]? = some p → qs[k]? = some q → place p.1 = some (q.1, q.2.1) ∧ AR C q.2.2 p.2) →
    ∀ (cells' : List AV) (pr : Prop), fillA cells qs = some (cells', pr) → pr → ∃ cs', Instr.fill place cs ps = some cs' ∧ RelL (AR C) cells' cs'.toList := by
  intro ps
  induction ps with
  | nil =>
    intro qs cells cs hr hl _ cells' pr hf hp
    have : qs = [] := List.eq_nil_of_length_eq_zero (by simpa using hl.symm)
    subst this
    simp only [fillA, Option.some.injEq, Prod.mk.injEq] at hf
    obtain ⟨rfl, -⟩ := hf
    exact ⟨cs, rfl, hr⟩
  | cons p ps ih =>
    intro qs cells cs hr hl hpq cells' pr hf hp
    cases qs with
    | nil => simp at hl
    | cons q qs =>
      obtain ⟨o, z, v⟩ := q
      obtain ⟨i, x⟩ := p
      simp only [fillA] at hf
      cases hf2 : fillA (cells.take o ++ v.cells ++ cells.drop (o + z)) qs with
      | none => rw [hf2] at hf; cases hf
      | some cp =>
        obtain ⟨c2, p2⟩ := cp
        simp only [hf2, Option.some.injEq, Prod.mk.injEq] at hf
        obtain ⟨rfl, rfl⟩ := hf
        obtain ⟨⟨hk, hvl, hfit⟩, hp2⟩ := hp
        obtain ⟨hpl, hav⟩ := hpq 0 _ _ rfl rfl
        obtain ⟨vs, hvs, hrv, -⟩ := hav.cells hk
        have hlen : cells.length = cs.size := by simpa using hr.1
        have hvl2 : vs.length = z := by rw [← hrv.1, hvl]
        have hset := set_cells_arr o vs cs (by omega)
        have hr2 : RelL (AR C) (cells.take o ++ v.cells ++ cells.drop (o + z)) (cs.toList.take o ++ vs ++ cs.toList.drop (o + vs.length)) := by
          rw [hvl2]
          exact ((hr.take o).append hrv).append (hr.drop (o + z))
        obtain ⟨cs', h1, h2⟩ := ih qs _ ((cs.toList.take o ++ vs ++ cs.toList.drop (o + vs.length)).toArray) (by simpa using hr2) (by simpa using hl)
          (fun k p q hp hq => hpq (k + 1) p q (by simpa using hp) (by simpa using hq)) _ _ hf2 hp2
        refine ⟨cs', ?_, h2⟩
        simp only at hpl
        have hsz : x.cells.size = z := by rw [hvs]; simpa using hvl2
        simp only [Instr.fill, hpl, hsz]
        rw [if_neg (by simp; omega)]
        rw [hvs, hset]
        exact h1

theorem run_mapM_fields (fs : List Field) (hfs : fs.all (fun f => (sizeT P f.type).isSome) = true) (w : World) :
    (fs.mapM (fun f => do pure (f.offset, ← sizeOf f.type) : Field → Sem (Nat × Nat))).run P w = .ok (fs.map fun f => (f.offset, (sizeT P f.type).getD 0)) w := by
  induction fs with
  | nil => simp
  | cons f fs ih =>
    simp only [List.all_cons, Bool.and_eq_true] at hfs
    obtain ⟨h1, h2⟩ := hfs
    obtain ⟨z, hz⟩ := Option.isSome_iff_exists.1 h1
    rw [List.mapM_cons]
    simp only [Sem.run_bind, sizeT_run hz, Result.andThen, Sem.run_pure, ih h2, List.map_cons, hz, Option.getD_some]

theorem mapO_get {α β : Type} {g : α → Option β} {l : List α} {ys : List β} (h : mapO g l = some ys) {k : Nat} {x : α} (hx : l[k]? = some x) : ∃ y, ys[k]? = some y ∧ g x = some y := by
  obtain ⟨h1, h2⟩ := mapO_some h
  have hk : k < ys.length := by have := (List.getElem?_eq_some_iff.1 hx).1; omega
  exact ⟨ys[k], by simp [hk], h2 k x _ hx (by simp [hk])⟩

theorem ok_build_struct (h : HR C hf wr w) {t : TypeId} {fs : Array Field} (ht : P.underlying t = some (.struct fs)) (hfs : fs.toList.all (fun f => (sizeT P f.type).isSome) = true) {z : List AV} (hz : zeroC P t = some z) {a : Act} {ps : Array (Nat × Operand)} {qs : List (Nat × Nat × SX)} (hqs : partsS P fs ps = some qs)
    (hta : ∀ k, AR C (tf k) (a.tmps.getD k undef)) {cs : List AV} {p : Prop} (hfill : fillA z (qs.map fun (a, b, x) => (a, b, x.ev tf)) = some (cs, p)) (hp : p) :
    OpOk P C hf wr base nm (vS (Instr.build t (ps.map fun (i, x) => (i, a.eval x)))) w (mkAgg cs) [] := by
  obtain ⟨v, hv, hr, -⟩ := zeroC_run (C := C) hz
  obtain ⟨hl, hq⟩ := mapO_some hqs
  obtain ⟨cs', h1, h2⟩ := fill_ok (C := C) (fun i => (fs.toList.map fun f => (f.offset, (sizeT P f.type).getD 0)).toArray[i]?) (ps.map fun (i, x) => (i, a.eval x)).toList (qs.map fun (a, b, x) => (a, b, x.ev tf)) z v.cells hr (by simp [hl])
    (by
      intro k p q hp hq'
      simp only [Array.toList_map, List.getElem?_map, Option.map_eq_some_iff] at hp hq'
      obtain ⟨⟨i, x⟩, hx, rfl⟩ := hp
      obtain ⟨⟨o, z, y⟩, hy, rfl⟩ := hq'
      have := hq k _ _ hx hy
      simp only [Option.bind_eq_bind, Option.bind_eq_some_iff] at this
      obtain ⟨f, hf', z', hz', y', hy', he⟩ := this
      simp only [Option.some.injEq, Prod.mk.injEq] at he
      obtain ⟨rfl, rfl, rfl⟩ := he
      refine ⟨?_, sx_ok hy' hta⟩
      have hf2 : fs.toList[i]? = some f := by simpa using hf'
      simp [hf2, hz']) _ _ hfill hp
  have hrun := run_mapM_fields (P := P) fs.toList hfs w
  refine .val h (val := .agg cs') ?_ ?_
  · simp only [Instr.build, Sem.run_bind, hv, Result.andThen, run_underlying ht, Array.mapM_eq_mapM_toList, Sem.run_map, hrun, h1, Sem.run_pure]
  · have := AR.mkAgg (C := C) h2
    simpa using this

theorem ok_build_array (h : HR C hf wr w) {t e : TypeId} {cnt : Nat} (ht : P.underlying t = some (.array cnt e)) {sz : Nat} (hsz : sizeT P e = some sz) {z : List AV} (hz : zeroC P t = some z) {a : Act} {ps : Array (Nat × Operand)} {qs : List (Nat × Nat × SX)} (hqs : partsA sz ps = some qs)
    (hta : ∀ k, AR C (tf k) (a.tmps.getD k undef)) {cs : List AV} {p : Prop} (hfill : fillA z (qs.map fun (a, b, x) => (a, b, x.ev tf)) = some (cs, p)) (hp : p) :
    OpOk P C hf wr base nm (vS (Instr.build t (ps.map fun (i, x) => (i, a.eval x)))) w (mkAgg cs) [] := by
  obtain ⟨v, hv, hr, -⟩ := zeroC_run (C := C) hz
  obtain ⟨hl, hq⟩ := mapO_some hqs
  obtain ⟨cs', h1, h2⟩ := fill_ok (C := C) (fun i => some (i * sz, sz)) (ps.map fun (i, x) => (i, a.eval x)).toList (qs.map fun (a, b, x) => (a, b, x.ev tf)) z v.cells hr (by simp [hl])
    (by
      intro k p q hp hq'
      simp only [Array.toList_map, List.getElem?_map, Option.map_eq_some_iff] at hp hq'
      obtain ⟨⟨i, x⟩, hx, rfl⟩ := hp
      obtain ⟨⟨o, z, y⟩, hy, rfl⟩ := hq'
      have := hq k _ _ hx hy
      simp only [Option.bind_eq_bind, Option.bind_eq_some_iff] at this
      obtain ⟨y', hy', he⟩ := this
      simp only [Option.some.injEq, Prod.mk.injEq] at he
      obtain ⟨rfl, rfl, rfl⟩ := he
      exact ⟨rfl, sx_ok hy' hta⟩) _ _ hfill hp
  refine .val h (val := .agg cs') ?_ ?_
  · simp only [Instr.build, Sem.run_bind, hv, Result.andThen, run_underlying ht, sizeT_run hsz, h1, Sem.run_pure]
  · have := AR.mkAgg (C := C) h2
    simpa using this

theorem flat_rep {α : Type} (z : List α) (n k : Nat) (h : k < n * z.length) : (List.replicate n z).flatten[k]? = z[k % z.length]? := by
  induction n generalizing k with
  | zero => simp at h
  | succ n ih =>
    rw [List.replicate_succ, List.flatten_cons, List.getElem?_append]
    by_cases hk : k < z.length
    · rw [if_pos hk, Nat.mod_eq_of_lt hk]
    · rw [if_neg hk, ih (k - z.length) (by rw [Nat.succ_mul] at h; omega)]
      rw [← Nat.mod_eq_sub_mod (by omega)]

theorem ok_mks (h : HR C hf wr w) (hnm : ¬ C.al nm) (hwr : ∀ b, base ≤ b → wr b) (hbase : base ≤ w.heap.size) {t e : TypeId} (ht : P.underlying t = some (.slice e)) {i : TypeInfo} (hi : P.info? e = some i) {z : List AV} (hz : zeroC P e = some z) (hpos : 0 < i.size) {kl kc : IntKind} {l c : Int} {x y : Value}
    (hx : AR C (.v (.i kl l)) x) (hy : AR C (.v (.i kc c)) y) (h0 : 0 ≤ l) (hlc : l ≤ c) (hby : (i.bytes : Int) * c ≤ 140737488355328) (hc : c ≤ 140737488355328) :
    OpOk P C hf wr base nm (vS (Instr.makeSlice t x y)) w (.rs nm 0 0 l.toNat z.length) [(nm, some ⟨0, (List.replicate c.toNat z).flatten, false, none⟩)] := by
  have e1 := inv_i hx; subst e1
  have e1 := inv_i hy; subst e1
  have hz' := hz
  unfold zeroC at hz'
  simp only [Option.bind_eq_bind, Option.bind_eq_some_iff] at hz'
  obtain ⟨i', hi', v, hv, hz'⟩ := hz'
  rw [hi] at hi'; injection hi' with hi'; subst hi'
  split at hz'
  · rename_i hsz
    obtain ⟨m1, m2⟩ := mapO_some hz'
    have hzl : z.length = i.size := by rw [← m1, ← hsz]; simp
    have hrun := run_make (P := P) w t e i v ht hi hv kl kc l c h0 hlc (by omega) (by omega)
    have hsz2 : (madeCells v.cells (c.toNat * i.size)).size = c.toNat * i.size := size_madeCells _ _
    have hfl : ((List.replicate c.toNat z).flatten).length = c.toNat * i.size := by simp [hzl]
    refine ok_new h hnm hwr hbase (.inl rfl) (vs := madeCells v.cells (c.toNat * i.size)) (el := e) (val := .slice (some ⟨w.heap.size, 0, none⟩) l.toNat c.toNat) (.inl (by simp only [vS, Sem.run_bind, hrun, Result.andThen, Sem.run_pure])) (by omega) (fun _ => by omega) ?_ ?_
    · intro k x u hx hu
      have hk : k < c.toNat * z.length := by have := (List.getElem?_eq_some_iff.1 hx).1; rw [hzl]; omega
      rw [flat_rep z _ _ hk] at hx
      have hu' : u = v.cells[k % v.cells.size]! := by
        have hlt : k < (madeCells v.cells (c.toNat * i.size)).size := by rw [hsz2]; rw [hzl] at hk; exact hk
        rw [Array.getElem?_eq_getElem hlt] at hu
        injection hu with hu
        rw [← hu]
        simp [madeCells]
      have hm : k % z.length < v.cells.size := by rw [hzl, hsz]; exact Nat.mod_lt _ hpos
      have hu2 : v.cells.toList[k % z.length]? = some u := by
        rw [hu', hsz, ← hzl]
        have : v.cells[k % z.length]! = v.cells[k % z.length] := by rw [getElem!_pos]
        rw [this]
        simp [hm]
      exact cvC_ok (m2 _ _ _ hu2 hx)
    · refine .rs nm 0 0 l.toNat z.length _ 0 c.toNat (.inr rfl) (by omega) (.inr rfl) fun cc hcc => ?_
      simp only [Cx.newObj, if_true] at hcc ⊢
      refine ⟨Nat.zero_le _, fun _ => ⟨trivial, ?_⟩⟩
      rw [hsz2, hzl]; omega
  · cases hz'

end
end Go.Dom
