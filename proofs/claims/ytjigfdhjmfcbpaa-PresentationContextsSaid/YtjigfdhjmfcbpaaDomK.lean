/-
  THE ABSTRACT OPERATIONS ARE RIGHT, SIXTH PART: those that make or write memory. Own work; generic over the program.
-/
import Derived.Test.YtjigfdhjmfcbpaaDomJ
set_option linter.all false
namespace Go.Dom
open Go.RowKit

section
variable {P : Program} {C : Cx} {hf : Nat → Option AObj} {wr : Nat → Prop} {base nm : Nat} {w : World} {tf : Nat → AV}

/-- A new object in a block of its own. -/
theorem ok_new (h : HR C hf wr w) (hnm : ¬ C.al nm) (hwr : ∀ b, base ≤ b → wr b) (hbase : base ≤ w.heap.size) {s : Sem Next} {val : Value} {cells : List AV} {gr : Bool} {vs : Array Value} {el : TypeId} {v : AV} {eo : Option TypeId} (heo : eo = none ∨ eo = some el)
    (hrun : s.run P w = .ok (.value val) (w.alloc (.cells vs el)) ∨ s.run P w = .ok (.value val) (w.drew.alloc (.cells vs el)))
    (hl : cells.length ≤ vs.size) (hg : gr = false → cells.length = vs.size) (hc : ∀ (k : Nat) (x : AV) (v : Value), cells[k]? = some x → vs[k]? = some v → AR C x v)
    (hv : AR (C.newObj w nm vs.size) v val) : OpOk P C hf wr base nm s w v [(nm, some ⟨0, cells, gr, eo⟩)] := by
  have hle := Cx.le_newObj w (z := vs.size) hnm
  rcases hrun with hrun | hrun
  · refine ⟨val, _, C.newObj w nm vs.size, .inl hrun, hv, ?_, hle, fun _ => Iff.rfl, Wf.alloc _ _ _, fun _ _ => rfl, .one (.inr (.inr (by simpa [Cx.newObj] using hbase))) fun k e => by simp [Cx.newObj, e]⟩
    rw [updF_one]
    exact h.newObj hnm (hwr _ hbase) cells gr vs el eo heo hl hg hc
  · refine ⟨val, _, C.newObj w nm vs.size, .inl hrun, hv, ?_, hle, fun _ => Iff.rfl, (Wf.drew _ _).trans (Wf.alloc _ _ _), fun _ _ => rfl, .one (.inr (.inr (by simpa [Cx.newObj] using hbase))) fun k e => by simp [Cx.newObj, e]⟩
    rw [updF_one]
    exact (h.world (w' := w.drew) fun _ _ => rfl).newObj hnm (hwr _ hbase) cells gr vs el eo heo hl hg hc

theorem zeroC_run {t : TypeId} {z : List AV} (h : zeroC P t = some z) : ∃ v : Value, (∀ w, (zeroValue t).run P w = .ok v w) ∧ RelL (AR C) z v.cells.toList ∧ sizeT P t = some v.cells.size := by
  unfold zeroC at h
  simp only [Option.bind_eq_bind, Option.bind_eq_some_iff] at h
  obtain ⟨i, hi, v, hv, h⟩ := h
  split at h
  · rename_i hsz
    refine ⟨v, fun w => by simp [zeroValue, typeInfo, hi, hv], ?_, by simp [sizeT, hi, hsz]⟩
    obtain ⟨h1, h2⟩ := mapO_some h
    exact ⟨by simpa using h1.symm, fun k x u hx hu => cvC_ok (h2 k u x hu hx)⟩
  · cases h

theorem newObj_p (C : Cx) (w : World) (nm z : Nat) : AR (C.newObj w nm z) (.p nm 0 0) (.pointer (some ⟨w.heap.size, 0, none⟩)) :=
  .p nm 0 0 _ (.inr rfl) fun c hc => by simp [Cx.newObj] at hc ⊢

theorem ok_alloc (h : HR C hf wr w) (hnm : ¬ C.al nm) (hwr : ∀ b, base ≤ b → wr b) (hbase : base ≤ w.heap.size) {t : TypeId} {z : List AV} (hz : zeroC P t = some z) :
    OpOk P C hf wr base nm (vS (Instr.alloc t true (.tuple #[]))) w (.p nm 0 0) [(nm, some ⟨0, z, false, some t⟩)] := by
  obtain ⟨v, hv, hr, -⟩ := zeroC_run (C := C) hz
  refine ok_new h hnm hwr hbase (.inr rfl) (vs := v.cells) (el := t) (.inl ?_) (by have := hr.1; simpa using Nat.le_of_eq this) (fun _ => by simpa using hr.1) ?_ (newObj_p _ _ _ _)
  · simp only [vS, Instr.alloc, Sem.run_bind, hv, Result.andThen, newVar, newRow, run_newObj, Sem.run_pure]; rfl
  · intro k x u hx hu
    exact hr.2 k x u hx (by simpa using hu)

theorem ok_box (h : HR C hf wr w) (hnm : ¬ C.al nm) (hwr : ∀ b, base ≤ b → wr b) (hbase : base ≤ w.heap.size) (t : TypeId) {vx : AV} {x : Value} (hx : AR C vx x) (hk : vx.okc = true) :
    OpOk P C hf wr base nm (vS (Instr.box t x)) w (.p nm 0 0) [(nm, some ⟨0, vx.cells, false, none⟩)] := by
  obtain ⟨vs, hvs, hr, -⟩ := hx.cells hk
  refine ok_new h hnm hwr hbase (.inl rfl) (vs := vs.toArray) (el := t) (.inl ?_) (by have := hr.1; simpa using Nat.le_of_eq this) (fun _ => by simpa using hr.1) ?_ (newObj_p _ _ _ _)
  · simp only [vS, Instr.box, Sem.run_bind, Result.andThen, newVar, newRow, run_newObj, Sem.run_pure, hvs]; rfl
  · intro k x u hx hu
    exact hr.2 k x u hx (by simpa using hu)

theorem setRow_heap {g : Nat} {cs cs' : Array Value} {el : TypeId} {fr : Nat × Nat} (hg : w.heap[g]? = some (.cells cs el fr)) : (w.setRow g cs').heap[g]? = some (.cells cs' el fr) ∧ (∀ b, b ≠ g → (w.setRow g cs').heap[b]? = w.heap[b]?) := by
  constructor
  · simp [World.setRow, Array.getElem?_modify, hg]
  · intro b hb
    simp only [World.setRow, Array.getElem?_modify]
    rw [if_neg (by omega)]

theorem Wf.setRow {g : Nat} (cs' : Array Value) (hwr : wr g) : Wf wr w (w.setRow g cs') := by
  refine ⟨rfl, rfl, rfl, by simp, fun b _ hn => ?_⟩
  have hne : b ≠ g := fun e => hn (e ▸ hwr)
  simp only [World.setRow, Array.getElem?_modify]
  rw [if_neg (by omega)]

theorem splice_rel {cells : List AV} {cs : List Value} (hr : ∀ (k : Nat) (x : AV) (v : Value), cells[k]? = some x → cs[k]? = some v → AR C x v) {ys : List AV} {vs : List Value} (hy : RelL (AR C) ys vs) {o : Nat} (ho : o ≤ cells.length) (hlen : cells.length ≤ cs.length) (hfit : o + ys.length ≤ cs.length) :
    ∀ (k : Nat) (x : AV) (v : Value), (cells.take o ++ ys ++ cells.drop (o + ys.length))[k]? = some x → (cs.take o ++ vs ++ cs.drop (o + vs.length))[k]? = some v → AR C x v := by
  intro k x v hx hv
  have hl := hy.1
  rw [List.append_assoc] at hx hv
  rw [List.getElem?_append] at hx hv
  have e1 : (cells.take o).length = o := by simp; omega
  have e2 : (cs.take o).length = o := by simp; omega
  rw [e1] at hx; rw [e2] at hv
  by_cases hk : k < o
  · rw [if_pos hk] at hx hv
    rw [List.getElem?_take, if_pos hk] at hx hv
    exact hr k x v hx hv
  · rw [if_neg hk] at hx hv
    rw [List.getElem?_append] at hx hv
    by_cases hk2 : k - o < ys.length
    · rw [if_pos hk2] at hx
      rw [if_pos (by omega)] at hv
      exact hy.2 _ x v hx hv
    · rw [if_neg hk2, List.getElem?_drop] at hx
      rw [if_neg (by omega), List.getElem?_drop] at hv
      rw [← hl] at hv
      exact hr _ x v hx hv

theorem ok_st (h : HR C hf wr w) {t : TypeId} {z : Nat} (hz : sizeT P t = some z) {n ver o : Nat} {x : Value} (hx : AR C (.p n ver o) x) {ob : AObj} (hn : hf n = some ob) (hver : ob.ver = ver) (hlen : o + z ≤ ob.cells.length)
    {vy : AV} {y : Value} (hy : AR C vy y) (hk : vy.okc = true) (hl : vy.cells.length = z) :
    OpOk P C hf wr base nm (do Instr.storeAt t x y; pure .skip) w (.v (.tup [])) [(n, some ⟨ob.ver, ob.cells.take o ++ vy.cells ++ ob.cells.drop (o + z), ob.gr, ob.el⟩)] := by
  have e := inv_p hx h hn hver; subst e
  obtain ⟨vs, hvs, hr, h1⟩ := hy.cells hk
  obtain ⟨cs, el, g1, g2, g3, g4, g5⟩ := h.obj n ob hn
  have hvl : vs.length = z := by rw [← hr.1, hl]
  have hst := run_storeCells_at P (C.mu n) o el vs 0 cs w g1 (by omega) h1
  simp only [Nat.add_zero] at hst
  have hcur := (h.live n ob hn).2
  let cs' : Array Value := (cs.toList.take o ++ vs ++ cs.toList.drop (o + vs.length)).toArray
  have hsz : cs'.size = cs.size := by simp [cs']; omega
  refine ⟨undef, w.setRow (C.mu n) cs', C.bump nm n ob.ver, .inr ⟨?_, rfl⟩, ?_, ?_, Cx.le_bump nm hcur (Nat.le_refl _), fun _ => Iff.rfl, Wf.setRow _ (h.wr n ob hn), fun _ _ => rfl, .one (.inr (.inl ⟨_, hn, rfl⟩)) fun _ _ => rfl⟩
  · have hvsz : y.cells.size = z := by rw [hvs]; simpa using hvl
    simp only [Instr.storeAt, Instr.sureAddr, storeVar, Sem.run_bind, Sem.run_pure, Result.andThen, sizeT_run hz, hvsz]
    simp only [ne_eq, not_true_eq_false, if_false, Sem.run_pure, Result.andThen]
    have : y.cells.toList = vs := by rw [hvs]
    rw [this, hst]
  · exact .v (.tup [] [] rfl (fun k x v hx => by simp at hx))
  · rw [updF_one]
    obtain ⟨k1, k2⟩ := setRow_heap (cs' := cs') g1
    refine h.write nm hn (Nat.le_refl _) _ ob.gr cs' el ob.el (.inr rfl) ⟨_, g1⟩ k1 (by rw [hsz, g2]) ?_ ?_ (fun b _ hb => k2 b hb) ?_
    · simp [cs', hl]; omega
    · intro hg; have := g4 hg; simp [cs', hl]; omega
    · intro k x v hx hv
      have hv' : (cs.toList.take o ++ vs ++ cs.toList.drop (o + vs.length))[k]? = some v := by simpa [cs'] using hv
      have hsp := splice_rel (C := C) (cells := ob.cells) (cs := cs.toList) (fun k x v hx hv => g5 k x v hx (by simpa using hv)) hr (o := o) (by omega) (by simpa using g3) (by simp; omega)
      exact hsp k x v (by rw [hl]; exact hx) hv'

end
end Go.Dom
