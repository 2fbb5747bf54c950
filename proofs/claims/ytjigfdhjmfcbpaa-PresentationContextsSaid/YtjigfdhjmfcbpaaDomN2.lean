/-
  THE ABSTRACT OPERATIONS ARE RIGHT, TENTH PART: pointers held against each other, unsafe.Pointer, unsafe.String over an own row. Own work; generic over the program.
-/
import Derived.Test.YtjigfdhjmfcbpaaDomN
import Derived.Lib.Builder
import Derived.Lib.UnsafeStr
set_option linter.all false
namespace Go.Dom
open Go.RowKit

section
variable {P : Program} {C : Cx} {hf : Nat → Option AObj} {wr : Nat → Prop} {base nm : Nat} {w : World} {tf : Nat → AV}

theorem run_eq_ptr {ng : Bool} {tp te : TypeId} {j : TypeInfo} (ox oy : Operand) (hp : P.underlying tp = some (.pointer te)) (hte : P.info? te = some j) {p q : Option Addr} {r : Bool} (hpq : (p = q ∧ r = true) ∨ (p.isSome ≠ q.isSome ∧ r = false)) (w : World) :
    (do eqGuard (if ng then .neq else .eql) tp ox oy (.pointer p) (.pointer q); binOp (if ng then .neq else .eql) tp (.pointer p) (.pointer q) : Sem Value).run P w = .ok (.bool (if ng then !r else r)) w := by
  have h : ∀ d : Nat, (Op.equalIn (d + 1) tp (.pointer p) (.pointer q)).run P w = .ok r w := fun d => by
    rcases hpq with ⟨rfl, rfl⟩ | ⟨hne, rfl⟩
    · cases p with
      | none => simp [Op.equalIn, run_underlying hp]
      | some a =>
        simp only [Op.equalIn, Sem.run_bind, run_underlying hp, Result.andThen, sizeOf, typeInfo, hte]
        simp [hte, run_sameAddr_same]
    · cases p <;> cases q <;> simp_all [Op.equalIn, run_underlying hp]
  have h' : (Op.equal tp (.pointer p) (.pointer q)).run P w = .ok r w := h 9999
  cases ng <;> simp [eqGuard, binOp, h']

theorem ok_peq (h : HR C hf wr w) {ng : Bool} {tp te : TypeId} {j : TypeInfo} (ox oy : Operand) (hp : P.underlying tp = some (.pointer te)) (hte : P.info? te = some j) {x y : Value} {vx vy : AV} (hx : AR C vx x) (hy : AR C vy y) {ao : AO} (ha : aPeq hf ng vx vy = some ao) (hpre : ao.pre) :
    OpOk P C hf wr base nm (vS (do eqGuard (if ng then .neq else .eql) tp ox oy x y; binOp (if ng then .neq else .eql) tp x y)) w ao.v ao.up := by
  unfold aPeq at ha
  split at ha
  · simp only [retO, Option.some.injEq] at ha; subst ha
    cases hx with | v hx => cases hx; cases hy with | v hy => cases hy; exact .val h (run_eq_ptr ox oy hp hte (r := true) (.inl ⟨rfl, rfl⟩) w) (by cases ng <;> exact .v (.b _))
  · simp only [retO, Option.some.injEq] at ha; subst ha
    cases hx; cases hy with | v hy => cases hy; exact .val h (run_eq_ptr ox oy hp hte (r := false) (.inr ⟨by simp, rfl⟩) w) (by cases ng <;> exact .v (.b _))
  · simp only [retO, Option.some.injEq] at ha; subst ha
    cases hy; cases hx with | v hx => cases hx; exact .val h (run_eq_ptr ox oy hp hte (r := false) (.inr ⟨by simp, rfl⟩) w) (by cases ng <;> exact .v (.b _))
  · simp only [retO, Option.some.injEq] at ha; subst ha
    cases hx; cases hy with | v hy => cases hy; exact .val h (run_eq_ptr ox oy hp hte (r := false) (.inr ⟨by simp, rfl⟩) w) (by cases ng <;> exact .v (.b _))
  · split at ha
    · rename_i hc
      obtain ⟨rfl, rfl, rfl⟩ := hc
      split at ha
      · rename_i ob hn
        simp only [Option.some.injEq] at ha; subst ha
        rw [inv_p hx h hn hpre, inv_p hy h hn hpre]
        exact .val h (run_eq_ptr ox oy hp hte (r := true) (.inl ⟨rfl, rfl⟩) w) (by cases ng <;> exact .v (.b _))
      · cases ha
    · cases ha
  · cases ha

theorem ok_cvp (h : HR C hf wr w) {s d : TypeId} {ok : TypeId → Nat → Nat → Bool} {x : Value} {vx : AV} (hx : AR C vx x)
    (hrun : ∀ (b o T n : Nat), w.shape? b = some (T, n) → o < n → ok T n o = true → (convert s d (.pointer (some ⟨b, o, none⟩))).run P w = .ok (.pointer (some ⟨b, o, none⟩)) w)
    {ao : AO} (ha : aCvp hf ok vx = some ao) (hpre : ao.pre) : OpOk P C hf wr base nm (vS (convert s d x)) w ao.v ao.up := by
  unfold aCvp at ha
  split at ha
  · rename_i n ver o
    split at ha
    · rename_i ob hn
      split at ha
      · rename_i T hT
        simp only [Option.some.injEq] at ha; subst ha
        obtain ⟨p1, p2, p3, p4⟩ := hpre
        obtain ⟨cs, el, g1, g2, g3, g4, g5⟩ := h.obj n ob hn
        obtain ⟨cs', g6⟩ := h.typ n ob hn T hT
        rw [g1] at g6
        injection g6 with g6; injection g6 with e1 e2 e3
        subst e1; subst e2
        have hv := inv_p hx h hn p1
        subst hv
        exact .val h (hrun (C.mu n) o el cs.size (by simp [World.shape?, g1]) (by rw [← g4 p3]; exact p2) (by rw [← g4 p3]; exact p4)) hx
      · cases ha
    · cases ha
  · cases ha

theorem ok_sld (h : HR C hf wr w) {ts : Array TypeId} {ty : TypeId} {x : Value} {vx : AV} (hx : AR C vx x) {ao : AO} (ha : aSld vx = some ao) (hpre : ao.pre) :
    OpOk P C hf wr base nm (vS (Builtin.unsafeSliceData_ ts ty #[x])) w ao.v ao.up := by
  unfold aSld at ha
  split at ha
  · simp only [retO, Option.some.injEq] at ha; subst ha
    cases hx
    exact .val h (Lib.run_unsafeSliceData_nil w ts ty 0 0) (.v .p0)
  · rename_i n ver o len z
    simp only [retP, Option.some.injEq] at ha; subst ha
    cases hx with
    | rs _ _ _ _ _ b o' cap hal hcap ho hx =>
      have hpre : 0 < len := hpre
      have hc : cap ≠ 0 := by omega
      have ho' : o' = o := by rcases ho with ho | ho; exact absurd ho hc; exact ho
      subst ho'
      exact .val h (Lib.run_unsafeSliceData_row w ts ty ⟨b, o', none⟩ len cap hc) (.p n ver o' b hal fun c hc => ⟨(hx c hc).1, fun e => ((hx c hc).2 e).1⟩)
  · cases ha

theorem isByte_ok {x : AV} {v : Value} (h : AR C x v) (hb : x = .v (u8 x.byte)) : v = .int .u8 x.byte.toNat := by
  rw [hb] at h
  cases h with | v h => cases h; rfl

/-- An object is given up. -/
def Cx.kill (C : Cx) (nm n : Nat) : Cx := { C with al := fun k => C.al k ∨ k = nm, cur := fun k => if k = n then none else C.cur k }

theorem Cx.le_kill (C : Cx) (nm n : Nat) : C.Le (C.kill nm n) := by
  refine ⟨fun _ _ _ h => h, fun _ h => .inl h, fun k _ d hd => ?_⟩
  by_cases e : k = n
  · simp [Cx.kill, e] at hd
  · simp only [Cx.kill, e, if_false] at hd
    exact ⟨d, hd, Nat.le_refl _, fun _ => ⟨rfl, rfl⟩⟩

theorem HR.kill (h : HR C hf wr w) (nm : Nat) {n : Nat} {ob : AObj} (hn : hf n = some ob) {w' : World} (hoth : ∀ b, b < w.heap.size → b ≠ C.mu n → w'.heap[b]? = w.heap[b]?) : HR (C.kill nm n) (fun k => if k = n then none else hf k) wr w' := by
  have hle := C.le_kill nm n
  have hold : ∀ m oc, (if m = n then none else hf m) = some oc → m ≠ n ∧ hf m = some oc := by
    intro m oc hm
    by_cases e : m = n
    · simp [e] at hm
    · simp only [e, if_false] at hm; exact ⟨e, hm⟩
  have hblk : ∀ m oc, hf m = some oc → m ≠ n → w'.heap[C.mu m]? = w.heap[C.mu m]? := fun m oc hm e => hoth _ (h.muLt hm) fun he => e (h.inj _ _ _ _ hm hn he)
  refine ⟨?_, ?_, ?_, ?_, ?_, ?_, ?_, ?_⟩
  · intro b o v hv
    have h1 := h.rdw b o v hv
    have hne : b ≠ C.mu n := fun e => by have hv' : C.rd b o = some v := hv; rw [e, h.sep n ob hn] at hv'; cases hv'
    rw [← h1]; exact World.cell?_of_block (hoth b (cell_lt h1) hne)
  · intro m oc hm
    obtain ⟨e, hm⟩ := hold m oc hm
    exact ⟨.inl (h.live m oc hm).1, by simp [Cx.kill, e, (h.live m oc hm).2]⟩
  · intro m hm
    by_cases e : m = n
    · simp [Cx.kill, e]
    · simp only [e, if_false] at hm
      simp [Cx.kill, e, h.dead m hm]
  · intro m oc hm k
    obtain ⟨e, hm⟩ := hold m oc hm
    exact h.sep m oc hm k
  · intro m m' oc oc' hm hm' hmu
    exact h.inj _ _ _ _ (hold m oc hm).2 (hold m' oc' hm').2 hmu
  · intro m oc hm
    exact h.wr m oc (hold m oc hm).2
  · intro m oc hm
    obtain ⟨e, hm⟩ := hold m oc hm
    obtain ⟨cs, el', h1, h2, h3, h4, h5⟩ := h.obj m oc hm
    exact ⟨cs, el', (hblk m oc hm e).trans h1, h2, h3, h4, fun k x v hx hv => (h5 k x v hx hv).mono hle⟩
  · intro m oc hm t ht
    obtain ⟨e, hm⟩ := hold m oc hm
    obtain ⟨cs, h1⟩ := h.typ m oc hm t ht
    exact ⟨cs, (hblk m oc hm e).trans h1⟩

theorem Wf.freeze (w : World) {a : Addr} (ha : wr a.block) (n : Nat) : Wf wr w (w.freeze a n) := by
  unfold World.freeze
  split
  · exact Wf.refl _ _
  · refine ⟨rfl, rfl, rfl, by simp, fun b hb hn => ?_⟩
    have hne : a.block ≠ b := fun e => hn (e ▸ ha)
    simp [Array.getElem?_modify, hne]

theorem ok_ust (h : HR C hf wr w) {pt it ty e : TypeId} (hp : P.underlying pt = some (.pointer e)) (hce : P.cellsOf e = 1) {x y : Value} {vx vy : AV} (hx : AR C vx x) (hy : AR C vy y) {ao : AO} (ha : aUst hf e vx vy = some ao) (hpre : ao.pre) :
    OpOk P C hf wr base nm (vS (Builtin.unsafeString_ #[pt, it] ty #[x, y])) w ao.v ao.up := by
  unfold aUst at ha
  split at ha
  · simp only [retO, Option.some.injEq] at ha; subst ha
    cases hx with | v hx => cases hx; cases hy with | v hy => cases hy; exact .val h (Lib.run_unsafeString_none w pt it ty none) (.v (.s []))
  · rename_i n ver o len
    split at ha
    · rename_i ob hn
      simp only [Option.some.injEq] at ha; subst ha
      obtain ⟨p1, p2, p3, p4, p5, p6, p7⟩ := hpre
      subst p2
      have hv := inv_p hx h hn p1; subst hv
      have hv := inv_i hy; subst hv
      obtain ⟨cs, el, g1, g2, g3, g4, g5⟩ := h.obj n ob hn
      obtain ⟨cs', g6⟩ := h.typ n ob hn e p3
      rw [g1] at g6
      injection g6 with g6; injection g6 with e1 e2 e3
      subst e1; subst e2
      have hll : ((ob.cells.take len.toNat).map AV.byte).length = len.toNat := by simp; omega
      have hli : (len : Int) = (((ob.cells.take len.toNat).map AV.byte).length : Nat) := by rw [hll]; omega
      have hne : (ob.cells.take len.toNat).map AV.byte ≠ [] := by
        intro e0; rw [e0] at hll; simp at hll; omega
      have hrun := Lib.run_unsafeString_row (P := P) w pt it ty el hp hce (C.mu n) cs.size (by simp [World.shape?, g1]) ((ob.cells.take len.toNat).map AV.byte) hne (by rw [hll]; omega) (by rw [hll]; omega) (by
        intro j b hb
        rw [add_none, cell_of_heap g1, Nat.zero_add]
        rw [List.getElem?_map, Option.map_eq_some_iff] at hb
        obtain ⟨a, ha, rfl⟩ := hb
        rw [List.getElem?_take] at ha
        split at ha
        · have hj : j < cs.size := by have := (List.getElem?_eq_some_iff.1 ha).1; omega
          have har := g5 j a cs[j] ha (by simp [hj])
          have hby := p7 a (by
            have : (ob.cells.take len.toNat)[j]? = some a := by rw [List.getElem?_take, if_pos (by assumption)]; exact ha
            exact List.mem_of_getElem? this)
          rw [← isByte_ok har hby]
          simp [hj]
        · cases ha)
      rw [← hli] at hrun
      refine ⟨_, _, C.kill nm n, .inl (by simp only [vS, Sem.run_bind, hrun, Result.andThen, Sem.run_pure]; rfl), .v (.s _), ?_, C.le_kill nm n, fun _ => Iff.rfl, Wf.freeze w (h.wr n ob hn) _, fun _ _ => rfl, .one (.inl rfl) fun _ _ => rfl⟩
      rw [updF_one]
      refine h.kill nm hn fun b _ hb => ?_
      unfold World.freeze
      split
      · rfl
      · simp [Array.getElem?_modify, Ne.symm hb]
    · cases ha
  · cases ha

end
end Go.Dom
