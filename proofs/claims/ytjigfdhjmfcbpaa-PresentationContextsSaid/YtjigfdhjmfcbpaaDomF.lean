/-
  THE ABSTRACT OPERATIONS ARE RIGHT, FIRST PART: those that make no memory. Own work; generic over the program.
-/
import Derived.Test.YtjigfdhjmfcbpaaDomE
set_option linter.all false
namespace Go.Dom
open Go.RowKit

/-- An operation that gives a value. -/
def vS (x : Sem Value) : Sem Next := do pure (.value (← x))

/-- The operation runs, and what it comes to is as the abstract operation says. -/
def OpOk (P : Program) (C : Cx) (hf : Nat → Option AObj) (wr : Nat → Prop) (base nm : Nat) (s : Sem Next) (w : World) (v : AV) (up : List (Nat × Option AObj)) : Prop :=
  ∃ val w' C', (s.run P w = .ok (.value val) w' ∨ (s.run P w = .ok .skip w' ∧ val = undef)) ∧ AR C' v val ∧ HR C' (updF hf up) wr w' ∧
    C.Le C' ∧ (∀ n, C'.al n ↔ C.al n ∨ n = nm) ∧ Wf wr w w' ∧ (∀ b, b < base → C'.rd b = C.rd b) ∧ Stay base C C' hf (updF hf up)

section
variable {P : Program} {C : Cx} {hf : Nat → Option AObj} {wr : Nat → Prop} {base nm : Nat} {w : World} {tf : Nat → AV}

theorem OpOk.val0 {s : Sem Next} {v : AV} {val : Value} (h : HR C hf wr w) (hrun : s.run P w = .ok (.value val) w) (hv : AR C v val) : OpOk P C hf wr base nm s w v [] :=
  ⟨val, w, C.give nm, .inl hrun, hv.mono (C.le_give nm), h.give nm, C.le_give nm, fun _ => Iff.rfl, Wf.refl _ _, fun _ _ => rfl, .mu rfl⟩

theorem OpOk.val {s : Sem Value} {v : AV} {val : Value} (h : HR C hf wr w) (hrun : s.run P w = .ok val w) (hv : AR C v val) : OpOk P C hf wr base nm (vS s) w v [] :=
  .val0 h (by simp [vS, hrun]) hv

theorem inv_b {x : Bool} {v : Value} (h : AR C (.v (.b x)) v) : v = .bool x := by cases h with | v h => cases h; rfl
theorem inv_i {k : IntKind} {n : Int} {v : Value} (h : AR C (.v (.i k n)) v) : v = .int k n := by cases h with | v h => cases h; rfl
theorem inv_s {x : Bytes} {v : Value} (h : AR C (.v (.s x)) v) : v = .string ⟨x.toArray⟩ := by cases h with | v h => cases h; rfl

theorem run_ibin {op : BinOp} {k k' : IntKind} {x y : Int} {ao : AO} (h : ibin op k x k' y = some ao) (hp : ao.pre) (t : TypeId) (ox oy : Operand) (w : World) :
    ∃ val, (do eqGuard op t ox oy (.int k x) (.int k' y); binOp op t (.int k x) (.int k' y) : Sem Value).run P w = .ok val w ∧ AR C ao.v val ∧ ao.up = [] := by
  cases op <;> simp only [ibin, iAnd, iOr, iXor, iAndNot, retP, Option.some.injEq] at h <;> subst h <;> (simp only at hp)
  case shl => exact ⟨_, by simp [eqGuard, binOp, Op.shift, show ¬ y < 0 from by omega], .v (.i _ _), rfl⟩
  case shr => exact ⟨_, by simp [eqGuard, binOp, Op.shift, show ¬ y < 0 from by omega], .v (.i _ _), rfl⟩
  case quo => obtain ⟨rfl, h0⟩ := hp; exact ⟨_, by simp [eqGuard, binOp, Op.intDiv, h0], .v (.i _ _), rfl⟩
  case rem => obtain ⟨rfl, h0⟩ := hp; exact ⟨_, by simp [eqGuard, binOp, Op.intDiv, h0], .v (.i _ _), rfl⟩
  case add => subst hp; exact ⟨_, by simp [eqGuard, binOp, Op.intArith], .v (.i _ _), rfl⟩
  case sub => subst hp; exact ⟨_, by simp [eqGuard, binOp, Op.intArith], .v (.i _ _), rfl⟩
  case mul => subst hp; exact ⟨_, by simp [eqGuard, binOp, Op.intArith], .v (.i _ _), rfl⟩
  case and => subst hp; exact ⟨_, by simp only [eqGuard, binOp, Op.intBits]; simp, .v (.i _ _), rfl⟩
  case or => subst hp; exact ⟨_, by simp only [eqGuard, binOp, Op.intBits]; simp, .v (.i _ _), rfl⟩
  case xor => subst hp; exact ⟨_, by simp only [eqGuard, binOp, Op.intBits]; simp, .v (.i _ _), rfl⟩
  case andNot => subst hp; exact ⟨_, by simp only [eqGuard, binOp, Op.intBits]; simp, .v (.i _ _), rfl⟩
  case eql => subst hp; exact ⟨_, by simp [eqGuard, binOp, Op.intCmp], .v (.b _), rfl⟩
  case neq => subst hp; exact ⟨_, by simp [eqGuard, binOp, Op.intCmp], .v (.b _), rfl⟩
  case lss => subst hp; exact ⟨_, by simp [eqGuard, binOp, Op.intCmp], .v (.b _), rfl⟩
  case leq => subst hp; exact ⟨_, by simp [eqGuard, binOp, Op.intCmp], .v (.b _), rfl⟩
  case gtr => subst hp; exact ⟨_, by simp [eqGuard, binOp, Op.intCmp], .v (.b _), rfl⟩
  case geq => subst hp; exact ⟨_, by simp [eqGuard, binOp, Op.intCmp], .v (.b _), rfl⟩

theorem run_sbin {op : BinOp} {x y : Bytes} {ao : AO} (h : sbin op x y = some ao) (hp : ao.pre) (t : TypeId) (ox oy : Operand) (w : World) :
    ∃ val, (do eqGuard op t ox oy (.string ⟨x.toArray⟩) (.string ⟨y.toArray⟩); binOp op t (.string ⟨x.toArray⟩) (.string ⟨y.toArray⟩) : Sem Value).run P w = .ok val w ∧ AR C ao.v val ∧ ao.up = [] := by
  cases op <;> simp only [sbin, retP, retO, Option.some.injEq, reduceCtorEq] at h <;> subst h <;> (simp only at hp)
  case add =>
    have h1 : ¬ (((ByteArray.mk x.toArray).size + (ByteArray.mk y.toArray).size : Nat) : Int) > IntKind.i64.max := by
      have e1 : (ByteArray.mk x.toArray).size = x.length := by simp [ByteArray.size]
      have e2 : (ByteArray.mk y.toArray).size = y.length := by simp [ByteArray.size]
      have e3 : IntKind.i64.max = 9223372036854775807 := by decide
      rw [e1, e2, e3]; omega
    have e : (ByteArray.mk x.toArray ++ ByteArray.mk y.toArray) = ByteArray.mk (x ++ y).toArray := by
      apply ByteArray.ext; simp
    refine ⟨.string ⟨(x ++ y).toArray⟩, ?_, .v (.s _), rfl⟩
    rw [← e]
    simp only [eqGuard, binOp, Op.stringOp, h1]; simp
  case eql => exact ⟨_, by simp [eqGuard, binOp, Op.stringOp], .v (.b _), rfl⟩
  case neq => exact ⟨_, by simp [eqGuard, binOp, Op.stringOp], .v (.b _), rfl⟩
  case lss => exact ⟨_, by simp [eqGuard, binOp, Op.stringOp], .v (.b _), rfl⟩
  case leq => exact ⟨_, by simp only [eqGuard, binOp, Op.stringOp, ByteArray.toList_mk]; simp, .v (.b _), rfl⟩
  case gtr => exact ⟨_, by simp only [eqGuard, binOp, Op.stringOp, ByteArray.toList_mk]; simp, .v (.b _), rfl⟩
  case geq => exact ⟨_, by simp [eqGuard, binOp, Op.stringOp], .v (.b _), rfl⟩

/-- The addresses of a pointer. -/
theorem inv_p {n ver q : Nat} {v : Value} (h : AR C (.p n ver q) v) {ob : AObj} (hh : HR C hf wr w) (hn : hf n = some ob) (hv : ob.ver = ver) : v = .pointer (some ⟨C.mu n, q, none⟩) := by
  cases h with
  | p n ver o b ha h => rw [(h _ (hh.live _ _ hn).2).2 hv.symm]

theorem add_none (b q k : Nat) : (⟨b, q, none⟩ : Addr).add k = ⟨b, q + k, none⟩ := by unfold Addr.add; split <;> simp_all

/-- Loading cells of an object. -/
theorem run_loadObj (hh : HR C hf wr w) {n : Nat} {ob : AObj} (hn : hf n = some ob) {q z : Nat} (hz : q + z ≤ ob.cells.length) :
    ∃ vs : List Value, (loadCells ⟨C.mu n, q, none⟩ z).run P w = .ok vs.toArray w ∧ RelL (AR C) ((ob.cells.drop q).take z) vs := by
  obtain ⟨cs, el, h1, h2, h3, h4, h5⟩ := hh.obj n ob hn
  have hr : RelL (AR C) ob.cells (cs.toList.take ob.cells.length) := by
    refine ⟨by simp; omega, fun k x v hx hv => h5 k x v hx ?_⟩
    rw [List.getElem?_take] at hv
    split at hv
    · simpa using hv
    · cases hv
  refine ⟨((cs.toList.take ob.cells.length).drop q).take z, ?_, (hr.drop q).take z⟩
  have hlen : (((cs.toList.take ob.cells.length).drop q).take z).length = z := by simp; omega
  have := run_loadCells_list (P := P) w ⟨C.mu n, q, none⟩ (((cs.toList.take ob.cells.length).drop q).take z) (by
    intro j v hv
    rw [add_none, cell_of_heap h1]
    rw [List.getElem?_take] at hv
    split at hv
    · rw [List.getElem?_drop, List.getElem?_take] at hv
      split at hv
      · simpa using hv
      · cases hv
    · cases hv)
  rw [hlen] at this
  exact this

theorem run_loadPure (hh : HR C hf wr w) {b q : Nat} (vs : List Value) (hr : ∀ (k : Nat) (v : Value), vs[k]? = some v → C.rd b (q + k) = some v) (o z : Nat) (hz : o + z ≤ vs.length) :
    (loadCells ⟨b, q + o, none⟩ z).run P w = .ok ((vs.drop o).take z).toArray w := by
  have hlen : ((vs.drop o).take z).length = z := by simp; omega
  have := run_loadCells_list (P := P) w ⟨b, q + o, none⟩ ((vs.drop o).take z) (by
    intro j v hv
    rw [add_none]
    refine hh.rdw _ _ _ ?_
    rw [List.getElem?_take] at hv
    split at hv
    · rw [List.getElem?_drop] at hv
      rw [Nat.add_assoc]; exact hr _ _ hv
    · cases hv)
  rw [hlen] at this
  exact this

theorem isAggT_run {t : TypeId} {ag : Bool} (h : isAggT P t = some ag) (w : World) : (isAgg t).run P w = .ok ag w := by
  unfold isAggT at h
  split at h <;> first | (cases h; done) | skip
  all_goals (simp at h; subst h; rename_i hu; simp [isAgg, run_underlying hu])

theorem sizeT_run {t : TypeId} {z : Nat} (h : sizeT P t = some z) (w : World) : (sizeOf t).run P w = .ok z w := by
  unfold sizeT at h
  simp only [Option.map_eq_some_iff] at h
  obtain ⟨i, hi, rfl⟩ := h
  simp [sizeOf, typeInfo, hi]

theorem load_one {b q : Nat} {v : Value} (h : (loadCells ⟨b, q, none⟩ 1).run P w = .ok #[v] w) : (load ⟨b, q, none⟩).run P w = .ok v w := by
  simp only [loadCells, loadCellsFrom, Sem.run_bind, add_none, Nat.add_zero] at h
  cases hl : (load ⟨b, q, none⟩).run P w with
  | ok u w' => rw [hl] at h; simp [Result.andThen] at h; obtain ⟨rfl, rfl⟩ := h; rfl
  | halt x w' => rw [hl] at h; simp [Result.andThen] at h

end
end Go.Dom
