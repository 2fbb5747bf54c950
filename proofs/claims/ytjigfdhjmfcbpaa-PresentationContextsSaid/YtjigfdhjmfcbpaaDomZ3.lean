/-
  CONTRACTS WITH EFFECTS OUT OF THE LOGIC: the heap behind the call, and the theorem. Own work; generic over the program.
-/
import Derived.Test.YtjigfdhjmfcbpaaDomZ2
set_option linter.all false
namespace Go.Dom
open Go.RowKit

section
variable {C D : Cx} {hf hs hf2 : Nat → Option AObj} {wr : Nat → Prop} {w w' : World} {ns : List Nat} {nm : Nat} {j : Option Nat}

/-- Where the caller's name is the callee's. -/
def Src (ns : List Nat) (nm : Nat) (j : Option Nat) (n i : Nat) : Prop := ixOf ns n = some i ∨ (ixOf ns n = none ∧ n = nm ∧ j = some i)

/-- The object, under the caller's names. -/
structure ORel (D L : Cx) (p o : AObj) : Prop where
  ver : o.ver = p.ver
  gr : o.gr = p.gr
  el : o.el = p.el
  len : o.cells.length = p.cells.length
  cells : ∀ (k : Nat) (x y : AV), p.cells[k]? = some x → o.cells[k]? = some y → ∀ v, AR D x v → AR L y v

structure Heap2 (D L : Cx) (hf hs hf2 : Nat → Option AObj) (ns : List Nat) (nm : Nat) (j : Option Nat) : Prop where
  src : ∀ n i, Src ns nm j n i → (hs i = none → hf2 n = none) ∧ ∀ p, hs i = some p → ∃ o, hf2 n = some o ∧ ORel D L p o
  nw : j = none → hf2 nm = none
  fr : ∀ n, ixOf ns n = none → n ≠ nm → hf2 n = hf n

theorem Left.cases (L : Left C D hf hs wr w w' ns nm j) (H : Heap2 D (C.leave D ns nm j hs w w') hf hs hf2 ns nm j) {n : Nat} {o : AObj} (hn : hf2 n = some o) :
    (∃ i p, Src ns nm j n i ∧ hs i = some p ∧ ORel D (C.leave D ns nm j hs w w') p o ∧ (C.leave D ns nm j hs w w').mu n = D.mu i ∧ (C.leave D ns nm j hs w w').cur n = D.cur i ∧ (C.leave D ns nm j hs w w').sz n = D.sz i) ∨
    (ixOf ns n = none ∧ n ≠ nm ∧ hf n = some o ∧ (C.leave D ns nm j hs w w').mu n = C.mu n ∧ (C.leave D ns nm j hs w w').cur n = C.cur n ∧ (C.leave D ns nm j hs w w').sz n = C.sz n) := by
  cases hi : ixOf ns n with
  | some i =>
    left
    have hsrc : Src ns nm j n i := .inl hi
    obtain ⟨h1, h2⟩ := H.src n i hsrc
    cases hp : hs i with
    | none => rw [h1 hp] at hn; cases hn
    | some p =>
      obtain ⟨o', e1, e2⟩ := h2 p hp
      rw [hn] at e1; injection e1 with e1; subst e1
      exact ⟨i, p, hsrc, hp, e2, by simp only [Cx.leave, hi], by simp only [Cx.leave, hi], by simp only [Cx.leave, hi]⟩
  | none =>
    by_cases e : n = nm
    · subst e
      cases hj : j with
      | none => rw [H.nw hj] at hn; cases hn
      | some i =>
        left
        have hsrc : Src ns n j n i := .inr ⟨hi, rfl, hj⟩
        obtain ⟨h1, h2⟩ := H.src n i hsrc
        cases hp : hs i with
        | none => rw [h1 hp] at hn; cases hn
        | some p =>
          obtain ⟨o', e1, e2⟩ := h2 p hp
          rw [hn] at e1; injection e1 with e1; subst e1
          subst hj
          exact ⟨i, p, hsrc, hp, e2, by simp [Cx.leave, hi], by simp [Cx.leave, hi], by simp [Cx.leave, hi]⟩
    · right
      rw [H.fr n hi e] at hn
      exact ⟨rfl, e, hn, by simp [Cx.leave, hi, e], by simp [Cx.leave, hi, e], by simp [Cx.leave, hi, e]⟩

theorem Src.uniq (L : Left C D hf hs wr w w' ns nm j) {n n' i : Nat} (h : Src ns nm j n i) (h' : Src ns nm j n' i) : n = n' := by
  rcases h with h | ⟨-, h, e⟩ <;> rcases h' with h' | ⟨-, h', e'⟩
  · have e1 := ixOf_some h; have e2 := ixOf_some h'; rw [e1] at e2; injection e2
  · have := (List.getElem?_eq_some_iff.1 (ixOf_some h)).1; have := L.jk i e'; omega
  · have := (List.getElem?_eq_some_iff.1 (ixOf_some h')).1; have := L.jk i e; omega
  · rw [h, h']

theorem Src.kept (L : Left C D hf hs wr w w' ns nm j) {n i : Nat} (h : Src ns nm j n i) : i < ns.length ∨ j = some i := by
  rcases h with h | ⟨-, -, e⟩
  · exact .inl (List.getElem?_eq_some_iff.1 (ixOf_some h)).1
  · exact .inr e

theorem Left.wrOf (L : Left C D hf hs wr w w' ns nm j) (hwr : ∀ b, w.heap.size ≤ b → wr b) {b : Nat} (h : wrIn C ns w b) : wr b := by
  rcases h with h | ⟨n, hn, rfl⟩
  · exact hwr b h
  · obtain ⟨ob, hob⟩ := L.live n hn
    exact L.hC.wr n ob hob

theorem Left.framed (L : Left C D hf hs wr w w' ns nm j) {n : Nat} {o : AObj} (hn : hf n = some o) (hi : ixOf ns n = none) : ¬ wrIn C ns w (C.mu n) := by
  rintro (h | ⟨m, hm, e⟩)
  · have := L.hC.muLt hn; omega
  · obtain ⟨ob, hob⟩ := L.live m hm
    have := L.hC.inj n m o ob hn hob e
    subst this
    exact ixOf_mem L.nd hi hm

theorem Left.heap (L : Left C D hf hs wr w w' ns nm j) (hwr : ∀ b, w.heap.size ≤ b → wr b) (H : Heap2 D (C.leave D ns nm j hs w w') hf hs hf2 ns nm j) : HR (C.leave D ns nm j hs w w') hf2 wr w' := by
  have hle := L.leC
  refine ⟨?_, ?_, ?_, ?_, ?_, ?_, ?_, ?_⟩
  · intro b o v hv
    simp only [Cx.leave] at hv
    by_cases hb : b < w.heap.size
    · rw [if_pos hb] at hv
      have h1 := L.hC.rdw b o v hv
      have hnw : ¬ wrIn C ns w b := by
        rintro (h | ⟨n, hn, rfl⟩)
        · omega
        · obtain ⟨ob, hob⟩ := L.live n hn
          rw [L.hC.sep n ob hob o] at hv; cases hv
      rw [← h1]; exact World.cell?_of_block (L.wf.blk b hb hnw)
    · rw [if_neg hb] at hv
      split at hv
      · cases hv
      · exact hv
  · intro n o hn
    rcases L.cases H hn with ⟨i, p, hs1, hp, hr, -, hc, -⟩ | ⟨hi, hne, h1, -, hc, -⟩
    · refine ⟨?_, ?_⟩
      · rcases hs1 with h | ⟨-, h, -⟩
        · obtain ⟨ob, hob⟩ := L.live n (List.mem_of_getElem? (ixOf_some h))
          exact .inl (L.hC.live n ob hob).1
        · exact .inr h
      · rw [hc, (L.hD.live i p hp).2, hr.ver]
    · exact ⟨.inl (L.hC.live n o h1).1, by rw [hc]; exact (L.hC.live n o h1).2⟩
  · intro n hn
    cases hi : ixOf ns n with
    | some i =>
      obtain ⟨-, h2⟩ := H.src n i (.inl hi)
      cases hp : hs i with
      | none => simp only [Cx.leave, hi]; exact L.hD.dead i hp
      | some p => obtain ⟨o, e1, -⟩ := h2 p hp; rw [hn] at e1; cases e1
    | none =>
      by_cases e : n = nm
      · subst e
        cases hj : j with
        | none => simp [Cx.leave, hi]
        | some i =>
          obtain ⟨-, h2⟩ := H.src n i (.inr ⟨hi, rfl, hj⟩)
          cases hp : hs i with
          | none => simp [Cx.leave, hi]; exact L.hD.dead i hp
          | some p => obtain ⟨o, e1, -⟩ := h2 p hp; rw [hn] at e1; cases e1
      · rw [H.fr n hi e] at hn
        simp [Cx.leave, hi, e]; exact L.hC.dead n hn
  · intro n o hn k
    rcases L.cases H hn with ⟨i, p, hs1, hp, hr, hm, -, -⟩ | ⟨hi, hne, h1, hm, -, -⟩
    · rw [hm]
      simp only [Cx.leave]
      by_cases hb : D.mu i < w.heap.size
      · rw [if_pos hb, ← L.rd _ hb]; exact L.hD.sep i p hp k
      · rw [if_neg hb, if_pos ⟨i, p, Src.kept L hs1, hp, rfl⟩]
    · rw [hm]
      have := L.hC.muLt h1
      simp only [Cx.leave, this, if_true]
      exact L.hC.sep n o h1 k
  · intro n n' o o' hn hn' hmu
    rcases L.cases H hn with ⟨i, p, hs1, hp, hr, hm, -, -⟩ | ⟨hi, hne, h1, hm, -, -⟩ <;> rcases L.cases H hn' with ⟨i', p', hs1', hp', hr', hm', -, -⟩ | ⟨hi', hne', h1', hm', -, -⟩
    · rw [hm, hm'] at hmu
      have := L.hD.inj i i' p p' hp hp' hmu
      subst this
      exact Src.uniq L hs1 hs1'
    · exfalso
      rw [hm, hm'] at hmu
      exact L.framed h1' hi' (hmu ▸ L.hD.wr i p hp)
    · exfalso
      rw [hm, hm'] at hmu
      exact L.framed h1 hi (hmu ▸ L.hD.wr i' p' hp')
    · rw [hm, hm'] at hmu
      exact L.hC.inj n n' o o' h1 h1' hmu
  · intro n o hn
    rcases L.cases H hn with ⟨i, p, hs1, hp, hr, hm, -, -⟩ | ⟨hi, hne, h1, hm, -, -⟩
    · rw [hm]; exact L.wrOf hwr (L.hD.wr i p hp)
    · rw [hm]; exact L.hC.wr n o h1
  · intro n o hn
    rcases L.cases H hn with ⟨i, p, hs1, hp, hr, hm, -, hz⟩ | ⟨hi, hne, h1, hm, -, hz⟩
    · obtain ⟨cs, el, g1, g2, g3, g4, g5⟩ := L.hD.obj i p hp
      rw [hm, hz]
      refine ⟨cs, el, g1, g2, by rw [hr.len]; exact g3, fun hg => by rw [hr.len]; exact g4 (hr.gr ▸ hg), fun k x v hx hv => ?_⟩
      have hk : k < p.cells.length := by have := (List.getElem?_eq_some_iff.1 hx).1; rw [hr.len] at this; exact this
      have e : p.cells[k]? = some p.cells[k] := by simp [hk]
      exact hr.cells k _ x e hx v (g5 k _ v e hv)
    · obtain ⟨cs, el, g1, g2, g3, g4, g5⟩ := L.hC.obj n o h1
      rw [hm, hz]
      exact ⟨cs, el, (L.wf.blk _ (L.hC.muLt h1) (L.framed h1 hi)).trans g1, g2, g3, g4, fun k x v hx hv => (g5 k x v hx hv).mono hle⟩
  · intro n o hn t ht
    rcases L.cases H hn with ⟨i, p, hs1, hp, hr, hm, -, -⟩ | ⟨hi, hne, h1, hm, -, -⟩
    · rw [hm]; exact L.hD.typ i p hp t (by rw [← hr.el]; exact ht)
    · rw [hm]
      obtain ⟨cs, g1⟩ := L.hC.typ n o h1 t ht
      exact ⟨cs, (L.wf.blk _ (L.hC.muLt h1) (L.framed h1 hi)).trans g1⟩

theorem Left.stay (L : Left C D hf hs wr w w' ns nm j) {base : Nat} (hb : base ≤ w.heap.size) (H : Heap2 D (C.leave D ns nm j hs w w') hf hs hf2 ns nm j) : Stay base C (C.leave D ns nm j hs w w') hf hf2 := by
  intro n o hn
  rcases L.cases H hn with ⟨i, p, hs1, hp, hr, hm, -, -⟩ | ⟨hi, hne, h1, hm, -, -⟩
  · rcases L.st i p hp with ⟨h1, h2⟩ | h
    · rcases hs1 with h | ⟨-, -, e⟩
      · have e1 := ixOf_some h
        obtain ⟨ob, hob⟩ := L.live n (List.mem_of_getElem? e1)
        refine .inl ⟨ob, hob, ?_⟩
        rw [hm, h2]
        simp [Cx.enter, List.getD_eq_getElem?_getD, e1]
      · have := L.jk i e; omega
    · exact .inr (by rw [hm]; omega)
  · exact .inl ⟨o, h1, hm⟩

end
end Go.Dom
