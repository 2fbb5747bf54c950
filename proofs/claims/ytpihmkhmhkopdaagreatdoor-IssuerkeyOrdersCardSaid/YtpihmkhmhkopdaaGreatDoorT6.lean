/-
  THE THEORY OF THIS CLAIM: a logic for its functions, generic over the program; part 6. Own work.
-/
import Derived.Test.YtpihmkhmhkopdaaGreatDoorT5
import Derived.IntWalk
import Derived.Attr
set_option linter.all false
/-
  CONTRACTS WITH EFFECTS OUT OF THE LOGIC: back into the caller's world. Own work; generic over the program.
-/
set_option linter.all false
namespace Go.Dom
open Go.RowKit

/-- The callee's context at its entry. -/
def Cx.enter (C : Cx) (ns : List Nat) : Cx :=
  { rd := C.rd, al := fun i => i < ns.length, cur := fun i => (ns[i]?).bind C.cur, mu := fun i => C.mu (ns.getD i 0), sz := fun i => C.sz (ns.getD i 0) }

open Classical in
/-- The caller's context behind the call: 'C' before it, 'D' the callee's at its end. -/
noncomputable def Cx.leave (C D : Cx) (ns : List Nat) (nm : Nat) (j : Option Nat) (hf : Nat → Option AObj) (w w' : World) : Cx :=
  { rd := fun b o => if b < w.heap.size then C.rd b o else if ∃ n ob, (n < ns.length ∨ j = some n) ∧ hf n = some ob ∧ D.mu n = b then none else w'.cell? ⟨b, o, none⟩,
    al := fun n => C.al n ∨ n = nm,
    cur := fun n => match ixOf ns n with
      | some i => D.cur i
      | none => if n = nm then j.bind D.cur else C.cur n,
    mu := fun n => match ixOf ns n with
      | some i => D.mu i
      | none => if n = nm then D.mu (j.getD 0) else C.mu n,
    sz := fun n => match ixOf ns n with
      | some i => D.sz i
      | none => if n = nm then D.sz (j.getD 0) else C.sz n }

/-- The callee's context at its end, under the names 0..k. -/
def Cx.mid (D : Cx) (k : Nat) (j : Option Nat) (rd : Rd) : Cx :=
  { rd := rd, al := fun n => n ≤ k, cur := fun n => if n < k then D.cur n else if n = k then j.bind D.cur else none,
    mu := fun n => if n < k then D.mu n else D.mu (j.getD 0), sz := fun n => if n < k then D.sz n else D.sz (j.getD 0) }

section
variable {C D : Cx} {hf hs : Nat → Option AObj} {wr : Nat → Prop} {w w' : World} {ns : List Nat} {nm : Nat} {j : Option Nat} {s : AS}

/-- The blocks that the callee may write. -/
def wrIn (C : Cx) (ns : List Nat) (w : World) (b : Nat) : Prop := w.heap.size ≤ b ∨ ∃ n ∈ ns, b = C.mu n

theorem HR.enter (h : HR C hf wr w) (hnd : ns.Nodup) {obsA obs : List AObj} (hln : ns.length = obsA.length) (hlive : ∀ (i n : Nat) (o : AObj), ns[i]? = some n → obsA[i]? = some o → hf n = some o) (hob : mapO (AObj.ren (ixOf ns)) obsA = some obs) :
    HR (C.enter ns) (hget (obs.mapIdx fun i x => (i, x))) (wrIn C ns w) w := by
  obtain ⟨m1, m2⟩ := mapO_some hob
  have get : ∀ (i : Nat) (o : AObj), hget (obs.mapIdx fun i x => (i, x)) i = some o → ∃ n oA, ns[i]? = some n ∧ obsA[i]? = some oA ∧ oA.ren (ixOf ns) = some o ∧ hf n = some oA := by
    intro i o hi
    rw [hget_mapIdx] at hi
    have hl := (List.getElem?_eq_some_iff.1 hi).1
    have e1 : ns[i]? = some (ns[i]'(by omega)) := List.getElem?_eq_getElem _
    have e2 : obsA[i]? = some (obsA[i]'(by omega)) := List.getElem?_eq_getElem _
    exact ⟨_, _, e1, e2, m2 i _ _ e2 hi, hlive i _ _ e1 e2⟩
  have gd : ∀ {i n : Nat}, ns[i]? = some n → ns.getD i 0 = n := by
    intro i n hi; simp [List.getD_eq_getElem?_getD, hi]
  have har : ∀ {x y : AV} {v : Value}, AR C x v → x.ren (ixOf ns) = some y → AR (C.enter ns) y v := by
    intro x y v hx hy
    refine AR.ren (C := C) (D := C.enter ns) (fun n m hnm _ => ?_) (fun n m hnm d hd => ?_) (fun _ _ _ h => h) hx y hy
    · exact (List.getElem?_eq_some_iff.1 (ixOf_some hnm)).1
    · have hi := ixOf_some hnm
      simp only [Cx.enter, hi, Option.bind_some] at hd
      exact ⟨hd, by simp only [Cx.enter, gd hi], by simp only [Cx.enter, gd hi]⟩
  refine ⟨h.rdw, ?_, ?_, ?_, ?_, ?_, ?_, ?_⟩
  · intro i o hi
    obtain ⟨n, oA, h1, h2, h3, h4⟩ := get i o hi
    refine ⟨(List.getElem?_eq_some_iff.1 h1).1, ?_⟩
    simp only [Cx.enter, h1, Option.bind_some]
    rw [(h.live n oA h4).2, (AObj.ren_some h3).1]
  · intro i hi
    rw [hget_mapIdx] at hi
    have hl := List.getElem?_eq_none_iff.1 hi
    have : ns[i]? = none := List.getElem?_eq_none_iff.2 (by omega)
    simp [Cx.enter, this]
  · intro i o hi k
    obtain ⟨n, oA, h1, h2, h3, h4⟩ := get i o hi
    simp only [Cx.enter, gd h1]
    exact h.sep n oA h4 k
  · intro i i' o o' hi hi' hmu
    obtain ⟨n, oA, h1, h2, h3, h4⟩ := get i o hi
    obtain ⟨n', oA', h1', h2', h3', h4'⟩ := get i' o' hi'
    simp only [Cx.enter, gd h1, gd h1'] at hmu
    have := h.inj n n' oA oA' h4 h4' hmu
    subst this
    have e1 := ixOf_get hnd h1
    have e2 := ixOf_get hnd h1'
    rw [e1] at e2; injection e2
  · intro i o hi
    obtain ⟨n, oA, h1, h2, h3, h4⟩ := get i o hi
    simp only [Cx.enter, gd h1]
    exact .inr ⟨n, List.mem_of_getElem? h1, rfl⟩
  · intro i o hi
    obtain ⟨n, oA, h1, h2, h3, h4⟩ := get i o hi
    obtain ⟨cs, el, g1, g2, g3, g4, g5⟩ := h.obj n oA h4
    obtain ⟨r1, r2, r3, r4⟩ := AObj.ren_some h3
    obtain ⟨q1, q2⟩ := renL_some r4
    simp only [Cx.enter, gd h1]
    refine ⟨cs, el, g1, g2, by omega, fun hg => by rw [← q1]; exact g4 (r2 ▸ hg), fun k x v hx hv => ?_⟩
    have hk : k < oA.cells.length := by have := (List.getElem?_eq_some_iff.1 hx).1; omega
    have e : oA.cells[k]? = some oA.cells[k] := by simp [hk]
    exact har (g5 k _ v e hv) (q2 k _ x e hx)
  · intro i o hi t ht
    obtain ⟨n, oA, h1, h2, h3, h4⟩ := get i o hi
    simp only [Cx.enter, gd h1]
    exact h.typ n oA h4 t (by rw [← (AObj.ren_some h3).2.2.1]; exact ht)

/-- What the callee has left, for the caller's context. -/
structure Left (C D : Cx) (hf hs : Nat → Option AObj) (wr : Nat → Prop) (w w' : World) (ns : List Nat) (nm : Nat) (j : Option Nat) : Prop where
  hC : HR C hf wr w
  hD : HR D hs (wrIn C ns w) w'
  nd : ns.Nodup
  live : ∀ n ∈ ns, ∃ ob, hf n = some ob
  nm : ¬ C.al nm
  rd : ∀ b, b < w.heap.size → D.rd b = C.rd b
  wf : Wf (wrIn C ns w) w w'
  le : (C.enter ns).Le D
  st : ∀ n ob, hs n = some ob → (n < ns.length ∧ D.mu n = (C.enter ns).mu n) ∨ w.heap.size ≤ D.mu n
  jk : ∀ n, j = some n → ns.length ≤ n

theorem Left.nmns (L : Left C D hf hs wr w w' ns nm j) : ixOf ns nm = none := by
  refine ixOf_none fun hm => ?_
  obtain ⟨ob, hob⟩ := L.live nm hm
  exact L.nm (L.hC.live nm ob hob).1

theorem Left.leC (L : Left C D hf hs wr w w' ns nm j) : C.Le (C.leave D ns nm j hs w w') := by
  refine ⟨fun b o v hv => ?_, fun _ h => .inl h, fun n hn d hd => ?_⟩
  · have := cell_lt (L.hC.rdw _ _ _ hv)
    simp [Cx.leave, this, hv]
  · simp only [Cx.leave] at hd ⊢
    cases hi : ixOf ns n with
    | some i =>
      simp only [hi] at hd ⊢
      have h1 := ixOf_some hi
      have hlt := (List.getElem?_eq_some_iff.1 h1).1
      obtain ⟨c, e1, e2, e3⟩ := L.le.cur i hlt d hd
      simp only [Cx.enter, h1, Option.bind_some] at e1
      refine ⟨c, e1, e2, fun he => ?_⟩
      obtain ⟨e4, e5⟩ := e3 he
      have gd : ns.getD i 0 = n := by simp [List.getD_eq_getElem?_getD, h1]
      simp only [Cx.enter, gd] at e4 e5
      exact ⟨e4, e5⟩
    | none =>
      simp only [hi] at hd ⊢
      by_cases e : n = nm
      · subst e; exact absurd hn L.nm
      · simp only [e, if_false] at hd ⊢
        exact ⟨d, hd, Nat.le_refl _, fun _ => ⟨trivial, trivial⟩⟩

/-- Values through the middle into the caller's context. -/
theorem Left.back (L : Left C D hf hs wr w w' ns nm j) {x y : AV} {v : Value} (hx : AR (D.mid ns.length j (C.leave D ns nm j hs w w').rd) x v) (hy : x.ren (bkOf ns nm) = some y) : AR (C.leave D ns nm j hs w w') y v := by
  refine AR.ren (C := D.mid ns.length j (C.leave D ns nm j hs w w').rd) (D := C.leave D ns nm j hs w w') (fun n m hnm _ => ?_) (fun n m hnm d hd => ?_) (fun _ _ _ h => h) hx y hy
  · unfold bkOf at hnm
    split at hnm
    · rename_i n' hn'
      injection hnm with hnm; subst hnm
      obtain ⟨ob, hob⟩ := L.live _ (List.mem_of_getElem? hn')
      exact .inl (L.hC.live _ ob hob).1
    · split at hnm
      · injection hnm with hnm; exact .inr hnm.symm
      · cases hnm
  · unfold bkOf at hnm
    split at hnm
    · rename_i n' hn'
      injection hnm with hnm; subst hnm
      have hlt := (List.getElem?_eq_some_iff.1 hn').1
      have hi := ixOf_get L.nd hn'
      simp only [Cx.leave, hi] at hd ⊢
      simp only [Cx.mid, hlt, if_true]
      exact ⟨hd, trivial, trivial⟩
    · split at hnm
      · rename_i hk
        injection hnm with hnm; subst hnm
        subst hk
        simp only [Cx.leave, L.nmns, if_true] at hd ⊢
        simp only [Cx.mid, Nat.lt_irrefl, if_false, if_true]
        exact ⟨hd, trivial, trivial⟩
      · cases hnm

theorem Left.rdle (L : Left C D hf hs wr w w' ns nm j) : ∀ b o v, D.rd b o = some v → (C.leave D ns nm j hs w w').rd b o = some v := by
  intro b o v hv
  simp only [Cx.leave]
  by_cases hb : b < w.heap.size
  · rw [if_pos hb, ← L.rd b hb]; exact hv
  · rw [if_neg hb, if_neg, L.hD.rdw _ _ _ hv]
    rintro ⟨n, ob, -, h1, rfl⟩
    rw [L.hD.sep n ob h1 o] at hv; cases hv

/-- Raw values into the middle. -/
theorem Left.toMid (L : Left C D hf hs wr w w' ns nm j) {x y : AV} {v : Value} (hx : AR D x v) (hy : x.ren (foV ns.length j) = some y) : AR (D.mid ns.length j (C.leave D ns nm j hs w w').rd) y v := by
  refine AR.ren (C := D) (D := D.mid ns.length j (C.leave D ns nm j hs w w').rd) (fun n m hnm _ => ?_) (fun n m hnm d hd => ?_) L.rdle hx y hy
  · unfold foV at hnm
    split at hnm
    · injection hnm with hnm; subst hnm; simp only [Cx.mid]; omega
    · split at hnm
      · injection hnm with hnm; subst hnm; simp [Cx.mid]
      · cases hnm
  · unfold foV at hnm
    split at hnm
    · rename_i hlt
      injection hnm with hnm; subst hnm
      simp only [Cx.mid, hlt, if_true] at hd ⊢
      exact ⟨hd, trivial, trivial⟩
    · split at hnm
      · rename_i hj
        injection hnm with hnm; subst hnm
        simp only [Cx.mid, Nat.lt_irrefl, if_false, if_true, hj, Option.bind_some, Option.getD_some] at hd ⊢
        exact ⟨hd, trivial, trivial⟩
      · cases hnm

end
end Go.Dom

/-
  CONTRACTS WITH EFFECTS OUT OF THE LOGIC: the heap behind the call, and the theorem. Own work; generic over the program.
-/
set_option linter.all false
namespace Go.Dom
open Go.RowKit

section
variable {C D : Cx} {hf hs hf2 : Nat → Option AObj} {wr : Nat → Prop} {w w' : World} {ns : List Nat} {nm : Nat} {j : Option Nat}

/-- Where the caller's name is the callee's. -/
def Src (ns : List Nat) (nm : Nat) (j : Option Nat) (n i : Nat) : Prop := ixOf ns n = some i ∨ (ixOf ns n = none ∧ n = nm ∧ j = some i)

/-- The object, under the caller's names. -/
structure ORel (D L : Cx) (p o : AObj) : Prop where
  ver : o.ver = p.ver
  gr : o.gr = p.gr
  el : o.el = p.el
  len : o.cells.length = p.cells.length
  cells : ∀ (k : Nat) (x y : AV), p.cells[k]? = some x → o.cells[k]? = some y → ∀ v, AR D x v → AR L y v

structure Heap2 (D L : Cx) (hf hs hf2 : Nat → Option AObj) (ns : List Nat) (nm : Nat) (j : Option Nat) : Prop where
  src : ∀ n i, Src ns nm j n i → (hs i = none → hf2 n = none) ∧ ∀ p, hs i = some p → ∃ o, hf2 n = some o ∧ ORel D L p o
  nw : j = none → hf2 nm = none
  fr : ∀ n, ixOf ns n = none → n ≠ nm → hf2 n = hf n

theorem Left.cases (L : Left C D hf hs wr w w' ns nm j) (H : Heap2 D (C.leave D ns nm j hs w w') hf hs hf2 ns nm j) {n : Nat} {o : AObj} (hn : hf2 n = some o) :
    (∃ i p, Src ns nm j n i ∧ hs i = some p ∧ ORel D (C.leave D ns nm j hs w w') p o ∧ (C.leave D ns nm j hs w w').mu n = D.mu i ∧ (C.leave D ns nm j hs w w').cur n = D.cur i ∧ (C.leave D ns nm j hs w w').sz n = D.sz i) ∨
    (ixOf ns n = none ∧ n ≠ nm ∧ hf n = some o ∧ (C.leave D ns nm j hs w w').mu n = C.mu n ∧ (C.leave D ns nm j hs w w').cur n = C.cur n ∧ (C.leave D ns nm j hs w w').sz n = C.sz n) := by
  cases hi : ixOf ns n with
  | some i =>
    left
    have hsrc : Src ns nm j n i := .inl hi
    obtain ⟨h1, h2⟩ := H.src n i hsrc
    cases hp : hs i with
    | none => rw [h1 hp] at hn; cases hn
    | some p =>
      obtain ⟨o', e1, e2⟩ := h2 p hp
      rw [hn] at e1; injection e1 with e1; subst e1
      exact ⟨i, p, hsrc, hp, e2, by simp only [Cx.leave, hi], by simp only [Cx.leave, hi], by simp only [Cx.leave, hi]⟩
  | none =>
    by_cases e : n = nm
    · subst e
      cases hj : j with
      | none => rw [H.nw hj] at hn; cases hn
      | some i =>
        left
        have hsrc : Src ns n j n i := .inr ⟨hi, rfl, hj⟩
        obtain ⟨h1, h2⟩ := H.src n i hsrc
        cases hp : hs i with
        | none => rw [h1 hp] at hn; cases hn
        | some p =>
          obtain ⟨o', e1, e2⟩ := h2 p hp
          rw [hn] at e1; injection e1 with e1; subst e1
          subst hj
          exact ⟨i, p, hsrc, hp, e2, by simp [Cx.leave, hi], by simp [Cx.leave, hi], by simp [Cx.leave, hi]⟩
    · right
      rw [H.fr n hi e] at hn
      exact ⟨rfl, e, hn, by simp [Cx.leave, hi, e], by simp [Cx.leave, hi, e], by simp [Cx.leave, hi, e]⟩

theorem Src.uniq (L : Left C D hf hs wr w w' ns nm j) {n n' i : Nat} (h : Src ns nm j n i) (h' : Src ns nm j n' i) : n = n' := by
  rcases h with h | ⟨-, h, e⟩ <;> rcases h' with h' | ⟨-, h', e'⟩
  · have e1 := ixOf_some h; have e2 := ixOf_some h'; rw [e1] at e2; injection e2
  · have := (List.getElem?_eq_some_iff.1 (ixOf_some h)).1; have := L.jk i e'; omega
  · have := (List.getElem?_eq_some_iff.1 (ixOf_some h')).1; have := L.jk i e; omega
  · rw [h, h']

theorem Src.kept (L : Left C D hf hs wr w w' ns nm j) {n i : Nat} (h : Src ns nm j n i) : i < ns.length ∨ j = some i := by
  rcases h with h | ⟨-, -, e⟩
  · exact .inl (List.getElem?_eq_some_iff.1 (ixOf_some h)).1
  · exact .inr e

theorem Left.wrOf (L : Left C D hf hs wr w w' ns nm j) (hwr : ∀ b, w.heap.size ≤ b → wr b) {b : Nat} (h : wrIn C ns w b) : wr b := by
  rcases h with h | ⟨n, hn, rfl⟩
  · exact hwr b h
  · obtain ⟨ob, hob⟩ := L.live n hn
    exact L.hC.wr n ob hob

theorem Left.framed (L : Left C D hf hs wr w w' ns nm j) {n : Nat} {o : AObj} (hn : hf n = some o) (hi : ixOf ns n = none) : ¬ wrIn C ns w (C.mu n) := by
  rintro (h | ⟨m, hm, e⟩)
  · have := L.hC.muLt hn; omega
  · obtain ⟨ob, hob⟩ := L.live m hm
    have := L.hC.inj n m o ob hn hob e
    subst this
    exact ixOf_mem L.nd hi hm

theorem Left.heap (L : Left C D hf hs wr w w' ns nm j) (hwr : ∀ b, w.heap.size ≤ b → wr b) (H : Heap2 D (C.leave D ns nm j hs w w') hf hs hf2 ns nm j) : HR (C.leave D ns nm j hs w w') hf2 wr w' := by
  have hle := L.leC
  refine ⟨?_, ?_, ?_, ?_, ?_, ?_, ?_, ?_⟩
  · intro b o v hv
    simp only [Cx.leave] at hv
    by_cases hb : b < w.heap.size
    · rw [if_pos hb] at hv
      have h1 := L.hC.rdw b o v hv
      have hnw : ¬ wrIn C ns w b := by
        rintro (h | ⟨n, hn, rfl⟩)
        · omega
        · obtain ⟨ob, hob⟩ := L.live n hn
          rw [L.hC.sep n ob hob o] at hv; cases hv
      rw [← h1]; exact World.cell?_of_block (L.wf.blk b hb hnw)
    · rw [if_neg hb] at hv
      split at hv
      · cases hv
      · exact hv
  · intro n o hn
    rcases L.cases H hn with ⟨i, p, hs1, hp, hr, -, hc, -⟩ | ⟨hi, hne, h1, -, hc, -⟩
    · refine ⟨?_, ?_⟩
      · rcases hs1 with h | ⟨-, h, -⟩
        · obtain ⟨ob, hob⟩ := L.live n (List.mem_of_getElem? (ixOf_some h))
          exact .inl (L.hC.live n ob hob).1
        · exact .inr h
      · rw [hc, (L.hD.live i p hp).2, hr.ver]
    · exact ⟨.inl (L.hC.live n o h1).1, by rw [hc]; exact (L.hC.live n o h1).2⟩
  · intro n hn
    cases hi : ixOf ns n with
    | some i =>
      obtain ⟨-, h2⟩ := H.src n i (.inl hi)
      cases hp : hs i with
      | none => simp only [Cx.leave, hi]; exact L.hD.dead i hp
      | some p => obtain ⟨o, e1, -⟩ := h2 p hp; rw [hn] at e1; cases e1
    | none =>
      by_cases e : n = nm
      · subst e
        cases hj : j with
        | none => simp [Cx.leave, hi]
        | some i =>
          obtain ⟨-, h2⟩ := H.src n i (.inr ⟨hi, rfl, hj⟩)
          cases hp : hs i with
          | none => simp [Cx.leave, hi]; exact L.hD.dead i hp
          | some p => obtain ⟨o, e1, -⟩ := h2 p hp; rw [hn] at e1; cases e1
      · rw [H.fr n hi e] at hn
        simp [Cx.leave, hi, e]; exact L.hC.dead n hn
  · intro n o hn k
    rcases L.cases H hn with ⟨i, p, hs1, hp, hr, hm, -, -⟩ | ⟨hi, hne, h1, hm, -, -⟩
    · rw [hm]
      simp only [Cx.leave]
      by_cases hb : D.mu i < w.heap.size
      · rw [if_pos hb, ← L.rd _ hb]; exact L.hD.sep i p hp k
      · rw [if_neg hb, if_pos ⟨i, p, Src.kept L hs1, hp, rfl⟩]
    · rw [hm]
      have := L.hC.muLt h1
      simp only [Cx.leave, this, if_true]
      exact L.hC.sep n o h1 k
  · intro n n' o o' hn hn' hmu
    rcases L.cases H hn with ⟨i, p, hs1, hp, hr, hm, -, -⟩ | ⟨hi, hne, h1, hm, -, -⟩ <;> rcases L.cases H hn' with ⟨i', p', hs1', hp', hr', hm', -, -⟩ | ⟨hi', hne', h1', hm', -, -⟩
    · rw [hm, hm'] at hmu
      have := L.hD.inj i i' p p' hp hp' hmu
      subst this
      exact Src.uniq L hs1 hs1'
    · exfalso
      rw [hm, hm'] at hmu
      exact L.framed h1' hi' (hmu ▸ L.hD.wr i p hp)
    · exfalso
      rw [hm, hm'] at hmu
      exact L.framed h1 hi (hmu ▸ L.hD.wr i' p' hp')
    · rw [hm, hm'] at hmu
      exact L.hC.inj n n' o o' h1 h1' hmu
  · intro n o hn
    rcases L.cases H hn with ⟨i, p, hs1, hp, hr, hm, -, -⟩ | ⟨hi, hne, h1, hm, -, -⟩
    · rw [hm]; exact L.wrOf hwr (L.hD.wr i p hp)
    · rw [hm]; exact L.hC.wr n o h1
  · intro n o hn
    rcases L.cases H hn with ⟨i, p, hs1, hp, hr, hm, -, hz⟩ | ⟨hi, hne, h1, hm, -, hz⟩
    · obtain ⟨cs, el, g1, g2, g3, g4, g5⟩ := L.hD.obj i p hp
      rw [hm, hz]
      refine ⟨cs, el, g1, g2, by rw [hr.len]; exact g3, fun hg => by rw [hr.len]; exact g4 (hr.gr ▸ hg), fun k x v hx hv => ?_⟩
      have hk : k < p.cells.length := by have := (List.getElem?_eq_some_iff.1 hx).1; rw [hr.len] at this; exact this
      have e : p.cells[k]? = some p.cells[k] := by simp [hk]
      exact hr.cells k _ x e hx v (g5 k _ v e hv)
    · obtain ⟨cs, el, g1, g2, g3, g4, g5⟩ := L.hC.obj n o h1
      rw [hm, hz]
      exact ⟨cs, el, (L.wf.blk _ (L.hC.muLt h1) (L.framed h1 hi)).trans g1, g2, g3, g4, fun k x v hx hv => (g5 k x v hx hv).mono hle⟩
  · intro n o hn t ht
    rcases L.cases H hn with ⟨i, p, hs1, hp, hr, hm, -, -⟩ | ⟨hi, hne, h1, hm, -, -⟩
    · rw [hm]; exact L.hD.typ i p hp t (by rw [← hr.el]; exact ht)
    · rw [hm]
      obtain ⟨cs, g1⟩ := L.hC.typ n o h1 t ht
      exact ⟨cs, (L.wf.blk _ (L.hC.muLt h1) (L.framed h1 hi)).trans g1⟩

theorem Left.stay (L : Left C D hf hs wr w w' ns nm j) {base : Nat} (hb : base ≤ w.heap.size) (H : Heap2 D (C.leave D ns nm j hs w w') hf hs hf2 ns nm j) : Stay base C (C.leave D ns nm j hs w w') hf hf2 := by
  intro n o hn
  rcases L.cases H hn with ⟨i, p, hs1, hp, hr, hm, -, -⟩ | ⟨hi, hne, h1, hm, -, -⟩
  · rcases L.st i p hp with ⟨h1, h2⟩ | h
    · rcases hs1 with h | ⟨-, -, e⟩
      · have e1 := ixOf_some h
        obtain ⟨ob, hob⟩ := L.live n (List.mem_of_getElem? e1)
        refine .inl ⟨ob, hob, ?_⟩
        rw [hm, h2]
        simp [Cx.enter, List.getD_eq_getElem?_getD, e1]
      · have := L.jk i e; omega
    · exact .inr (by rw [hm]; omega)
  · exact .inl ⟨o, h1, hm⟩

end
end Go.Dom

/-
  CONTRACTS WITH EFFECTS OUT OF THE LOGIC: the theorem. Own work; generic over the program.
-/
set_option linter.all false
namespace Go.Dom
open Go.RowKit

section
variable {C D : Cx} {hf : Nat → Option AObj} {wr : Nat → Prop} {w w' : World} {ns : List Nat} {nm : Nat} {j : Option Nat} {s : AS}

theorem Left.viewed (L : Left C D hf (hget s.h) wr w w' ns nm j) {x : AV} {v : Value} {y : PV} (hx : AR D x v) (hy : view (hfV ns.length j s) 9 x = some y) : PR (C.leave D ns nm j (hget s.h) w w').rd y v := by
  let D' : Cx := { D with cur := fun n => if n < ns.length ∨ j = some n then none else D.cur n }
  have hle : D.Le D' := by
    refine ⟨fun _ _ _ h => h, fun _ h => h, fun n _ d hd => ?_⟩
    simp only [D'] at hd
    split at hd
    · cases hd
    · exact ⟨d, hd, Nat.le_refl _, fun _ => ⟨rfl, rfl⟩⟩
  have hsub : ∀ n ob, hfV ns.length j s n = some ob → ¬ (n < ns.length ∨ j = some n) ∧ hget s.h n = some ob := by
    intro n ob hn
    unfold hfV at hn
    split at hn
    · cases hn
    · exact ⟨by assumption, hn⟩
  have hH : HR D' (hfV ns.length j s) (wrIn C ns w) w' := by
    refine ⟨L.hD.rdw, ?_, ?_, ?_, ?_, ?_, ?_, ?_⟩
    · intro n ob hn
      obtain ⟨h1, h2⟩ := hsub n ob hn
      exact ⟨(L.hD.live n ob h2).1, by simp only [D', h1, if_false]; exact (L.hD.live n ob h2).2⟩
    · intro n hn
      unfold hfV at hn
      simp only [D']
      split at hn
      · rename_i h; rw [if_pos h]
      · rename_i h; rw [if_neg h]; exact L.hD.dead n hn
    · exact fun n ob hn => L.hD.sep n ob (hsub n ob hn).2
    · exact fun n m ob oc hn hm => L.hD.inj n m ob oc (hsub n ob hn).2 (hsub m oc hm).2
    · exact fun n ob hn => L.hD.wr n ob (hsub n ob hn).2
    · intro n ob hn
      obtain ⟨cs, el, h1, h2, h3, h4, h5⟩ := L.hD.obj n ob (hsub n ob hn).2
      exact ⟨cs, el, h1, h2, h3, h4, fun k x v hx hv => (h5 k x v hx hv).mono hle⟩
    · exact fun n ob hn => L.hD.typ n ob (hsub n ob hn).2
  have : ∀ b, Decidable (∃ n ob, hfV ns.length j s n = some ob ∧ D'.mu n = b) := fun b => Classical.propDecidable _
  refine (view_ok hH 9 x y v (hx.mono hle) hy).mono ?_
  intro b o v hv
  unfold viewRd at hv
  split at hv
  · rename_i hex
    obtain ⟨n, ob, hn, rfl⟩ := hex
    obtain ⟨h1, h2⟩ := hsub n ob hn
    have hge : w.heap.size ≤ D.mu n := by
      rcases L.st n ob h2 with ⟨h, -⟩ | h
      · exact absurd (.inl h) h1
      · exact h
    have hnl : ¬ D'.mu n < w.heap.size := by simp only [D']; omega
    simp only [Cx.leave]
    rw [if_neg hnl, if_neg]
    · exact hv
    · rintro ⟨m, oc, h3, h4, h5⟩
      have := L.hD.inj m n oc ob h4 h2 h5
      subst this
      exact h1 h3
  · exact L.rdle b o v hv

theorem Left.outC (L : Left C D hf (hget s.h) wr w w' ns nm j) {x y z : AV} {v : Value} (hx : AR D x v) (hy : Dom.outC ns.length j s x = some y) (hz : y.ren (bkOf ns nm) = some z) : AR (C.leave D ns nm j (hget s.h) w w') z v := by
  unfold Dom.outC at hy
  split at hy
  · rename_i p hp
    simp only [Option.some.injEq] at hy; subst hy
    simp only [AV.ren, Option.some.injEq] at hz; subst hz
    exact .v (L.viewed hx (viewC_some hp))
  · exact L.back (L.toMid hx hy) hz

theorem Left.outV (L : Left C D hf (hget s.h) wr w w' ns nm j) {x y z : AV} {v : Value} (hx : AR D x v) (hy : Dom.outV ns.length j s x = some y) (hz : y.ren (bkOf ns nm) = some z) : AR (C.leave D ns nm j (hget s.h) w w') z v := by
  unfold Dom.outV at hy
  split at hy
  · rename_i p hp
    simp only [Option.some.injEq] at hy; subst hy
    simp only [AV.ren, Option.some.injEq] at hz; subst hz
    exact .v (L.viewed hx hp)
  · split at hy
    · rename_i l
      split at hy
      · rename_i l' hl'
        simp only [Option.some.injEq] at hy; subst hy
        simp only [AV.ren] at hz
        split at hz
        · rename_i l'' hl''
          simp only [Option.some.injEq] at hz; subst hz
          cases hx with
          | agg l0 vs hl hxs =>
            obtain ⟨m1, m2⟩ := mapO_some hl'
            obtain ⟨r1, r2⟩ := renL_some hl''
            refine .agg l'' vs (by omega) fun k a u ha hu => ?_
            have hk := (List.getElem?_eq_some_iff.1 ha).1
            have e2 : l'[k]? = some (l'[k]'(by omega)) := List.getElem?_eq_getElem _
            have e1 : _[k]? = some _ := List.getElem?_eq_getElem (m1 ▸ (List.getElem?_eq_some_iff.1 e2).1)
            exact L.outC (hxs k _ u e1 hu) (m2 k _ _ e1 e2) (r2 k _ a e2 ha)
        · cases hz
      · cases hy
    · exact L.back (L.toMid hx hy) hz

theorem Left.heap2 (L : Left C D hf (hget s.h) wr w w' ns nm j) {obsA obs : List AObj} (hln : ns.length = obsA.length) (hlive : ∀ (i n : Nat) (o : AObj), ns[i]? = some n → obsA[i]? = some o → hf n = some o) (hob : mapO (AObj.ren (ixOf ns)) obsA = some obs)
    {fs : List (Option (Option AObj))} {nw : Option AObj} (hfin : finH ns.length j s 0 obs fs) (hnw : finN ns.length j s nw) {up : List (Nat × Option AObj)} (hup : upsOf ns nm fs nw = some up) :
    Heap2 D (C.leave D ns nm j (hget s.h) w w') hf (hget s.h) (updF hf up) ns nm j := by
  obtain ⟨m1, m2⟩ := mapO_some hob
  obtain ⟨q1, q2⟩ := finH_get hfin
  have hnn := L.nmns
  have hnmem : nm ∉ ns := ixOf_mem L.nd hnn
  have hinv : ∀ n m, ixOf ns n = some m → bkOf ns nm m = some n := by
    intro n m h
    unfold bkOf
    rw [ixOf_some h]
  have orel : ∀ (p o o' : AObj), outO ns.length j s p = some o → o.ren (bkOf ns nm) = some o' → ORel D (C.leave D ns nm j (hget s.h) w w') p o' := by
    intro p o o' h1 h2
    obtain ⟨a1, a2, a3, a4⟩ := outO_some h1
    obtain ⟨b1, b2, b3, b4⟩ := AObj.ren_some h2
    obtain ⟨c1, c2⟩ := mapO_some a4
    obtain ⟨d1, d2⟩ := renL_some b4
    refine ⟨b1.trans a1, b2.trans a2, b3.trans a3, by omega, fun k x y hx hy v hv => ?_⟩
    have hk := (List.getElem?_eq_some_iff.1 hx).1
    have e : o.cells[k]? = some (o.cells[k]'(by omega)) := List.getElem?_eq_getElem _
    exact L.outC hv (c2 k x _ hx e) (d2 k _ y e hy)
  obtain ⟨l, hl, hul⟩ : ∃ l, outs (bkOf ns nm) ns fs = some l ∧ ((nw = none ∧ up = l) ∨ ∃ o o', nw = some o ∧ o.ren (bkOf ns nm) = some o' ∧ up = (nm, some o') :: l) := by
    unfold upsOf at hup
    split at hup
    · rename_i l hl; injection hup with hup; exact ⟨l, hl, .inl ⟨rfl, hup.symm⟩⟩
    · rename_i l o hl
      split at hup
      · rename_i o' ho'; injection hup with hup; exact ⟨l, hl, .inr ⟨o, o', rfl, ho', hup.symm⟩⟩
      · cases hup
    · cases hup
  obtain ⟨k1, k2, k3⟩ := outs_look L.nd hl
  have look : ∀ n, n ≠ nm → lookU up n = lookU l n := by
    intro n hne
    rcases hul with ⟨-, rfl⟩ | ⟨o, o', -, -, rfl⟩
    · rfl
    · simp only [lookU, hne, if_false]
      cases lookU l n <;> rfl
  refine ⟨?_, ?_, ?_⟩
  · intro n i hsrc
    rcases hsrc with hi | ⟨hi, rfl, hj⟩
    · have e1 := ixOf_some hi
      have hlt := (List.getElem?_eq_some_iff.1 e1).1
      have e2 : obs[i]? = some (obs[i]'(by omega)) := List.getElem?_eq_getElem _
      have e3 : fs[i]? = some (fs[i]'(by omega)) := List.getElem?_eq_getElem _
      have e4 : obsA[i]? = some (obsA[i]'(by omega)) := List.getElem?_eq_getElem _
      have hne : n ≠ nm := fun e => by rw [e, hnn] at hi; cases hi
      have f1 := q2 i _ _ e2 e3
      have f2 := k3 i n _ e1 e3
      have f3 := m2 i _ _ e4 e2
      have f4 := hlive i n _ e1 e4
      rw [Nat.zero_add] at f1
      rw [updF_look, look n hne]
      generalize fs[i]'(by omega) = f at f1 f2
      match f, f1, f2 with
      | none, f1, f2 =>
        obtain ⟨p, g1, g2⟩ := f1
        simp only at f2
        rw [f2]
        refine ⟨fun h => by rw [g1] at h; (cases h), fun p' hp' => ?_⟩
        rw [g1] at hp'; injection hp' with hp'; subst hp'
        exact ⟨_, f4, orel p _ _ g2 (AObj.ren_inv hinv f3)⟩
      | some none, f1, f2 =>
        simp only at f1 f2
        rw [f2]
        exact ⟨fun _ => rfl, fun p hp => by rw [f1] at hp; cases hp⟩
      | some (some o), f1, f2 =>
        obtain ⟨p, g1, g2⟩ := f1
        obtain ⟨o', g3, g4⟩ := f2
        rw [g4]
        refine ⟨fun h => by rw [g1] at h; (cases h), fun p' hp' => ?_⟩
        rw [g1] at hp'; injection hp' with hp'; subst hp'
        exact ⟨o', rfl, orel p _ _ g2 g3⟩
    · subst hj
      rcases hul with ⟨rfl, -⟩ | ⟨o, o', rfl, h2, rfl⟩
      · simp [finN] at hnw
      · obtain ⟨-, hnw⟩ := hnw
        split at hnw
        · rename_i p hp
          rw [updF_look]
          simp only [lookU, k2 n hnmem, if_true, Option.getD_some]
          refine ⟨fun h => by rw [hp] at h; (cases h), fun p' hp' => ?_⟩
          rw [hp] at hp'; injection hp' with hp'; subst hp'
          exact ⟨o', rfl, orel p _ _ hnw h2⟩
        · exact hnw.elim
  · intro hj
    subst hj
    rcases hul with ⟨rfl, rfl⟩ | ⟨o, o', rfl, -, -⟩
    · rw [updF_look, k2 nm hnmem]
      cases hn : hf nm with
      | none => rfl
      | some ob => exact absurd (L.hC.live nm ob hn).1 L.nm
    · simp [finN] at hnw
  · intro n hi hne
    rw [updF_look, look n hne, k2 n (ixOf_mem L.nd hi)]
    rfl

end
end Go.Dom

/-
  CONTRACTS WITH EFFECTS OUT OF THE LOGIC. Own work; generic over the program.
-/
set_option linter.all false
namespace Go.Dom
open Go.RowKit

section
variable {P : Program} [Tabs P]

theorem EvA.of_aw {f : FuncId} {fn : Func} {code : Code} {sc : SC} {rs : List SRes} (hm : P.follows .mixedOrders = true) (hent : Enters P f f) (hfn : P.funcs[f]? = some fn) (hbody : fn.body = some code) (hcomp : comp P fn.ntmps code = some sc) (hres : compRes P fn.results.toList = some rs)
    {obs : List AObj} {args : List AV} {fs : List (Option (Option AObj))} {j : Option Nat} {nw : Option AObj} {v : AV} (hlen : args.length ≤ fn.ntmps) (h : aw P sc (RetA rs obs fs j nw v) ⟨args.mapIdx (fun i x => (i, x)), obs.mapIdx (fun i x => (i, x)), 1000⟩)
    {ns : List Nat} {nm : Nat} {obsA : List AObj} {avs : List AV} {v' : AV} {up : List (Nat × Option AObj)} (hns : ns.length ≤ 1000) (hnd : ns.Nodup) (hln : ns.length = obsA.length) (hob : mapO (AObj.ren (ixOf ns)) obsA = some obs) (hav : mapO (AV.ren (ixOf ns)) avs = some args)
    (hv : v.ren (bkOf ns nm) = some v') (hup : upsOf ns nm fs nw = some up) : EvA P f nm (ns.zip obsA) avs v' up := by
  refine ⟨f, hent, fun C hf wr w base vs htr hC hwr hbase hhs hnm hargs => ?_⟩
  have hlive : ∀ (i n : Nat) (o : AObj), ns[i]? = some n → obsA[i]? = some o → hf n = some o := by
    intro i n o h1 h2
    exact hhs (n, o) (List.mem_of_getElem? (i := i) (by rw [List.getElem?_zip_eq_some]; exact ⟨h1, h2⟩))
  have hol : obs.length = ns.length := by have := (mapO_some hob).1; omega
  let E : Env P := ⟨w, C.rd, wrIn C ns w, fn.ntmps, C.enter ns, [], fun n hn => Nat.lt_of_lt_of_le hn hns, htr, w.heap.size, [], none, C.enter ns, Nat.le_refl _, by simp, [], by simp⟩
  refine callsIn_wide.1 (callsIn_of_wp_marks (F := Fence.wide) (n := 0) hfn hbody trivial ?_)
  obtain ⟨m1, m2⟩ := mapO_some hav
  have hvl : vs.length = args.length := by rw [← m1]; exact hargs.1.symm
  have har : ∀ {x y : AV} {v : Value}, AR C x v → x.ren (ixOf ns) = some y → AR (C.enter ns) y v := by
    intro x y v hx hy
    refine AR.ren (C := C) (D := C.enter ns) (fun n m hnm _ => ?_) (fun n m hnm d hd => ?_) (fun _ _ _ h => h) hx y hy
    · exact (List.getElem?_eq_some_iff.1 (ixOf_some hnm)).1
    · have hi := ixOf_some hnm
      have gd : ns.getD m 0 = n := by simp [List.getD_eq_getElem?_getD, hi]
      simp only [Cx.enter, hi, Option.bind_some] at hd
      exact ⟨hd, by simp only [Cx.enter, gd], by simp only [Cx.enter, gd]⟩
  have hle1 : (C.enter ns).Le { C.enter ns with al := fun n => n < 1000 } := ⟨fun _ _ _ h => h, fun n hn => Nat.lt_of_lt_of_le hn hns, fun n _ d hd => ⟨d, hd, Nat.le_refl _, fun _ => ⟨rfl, rfl⟩⟩⟩
  have hE := hC.enter hnd hln hlive hob
  have hH1 : HR { C.enter ns with al := fun n => n < 1000 } (Dom.hget (obs.mapIdx fun i x => (i, x))) (wrIn C ns w) w :=
    ⟨hE.rdw, fun n ob hn => ⟨hle1.al n (hE.live n ob hn).1, (hE.live n ob hn).2⟩, hE.dead, hE.sep, hE.inj, hE.wr, fun n ob hn => by
      obtain ⟨cs, el, h1, h2, h3, h4, h5⟩ := hE.obj n ob hn
      exact ⟨cs, el, h1, h2, h3, h4, fun k x v hx hv => (h5 k x v hx hv).mono hle1⟩, hE.typ⟩
  have hs0 : SRs E ⟨args.mapIdx (fun i x => (i, x)), obs.mapIdx (fun i x => (i, x)), 1000⟩ { tmps := vs.toArray ++ Array.replicate (fn.ntmps - vs.toArray.size) undef, defers := [] } w := by
    refine ⟨⟨{ C.enter ns with al := fun n => n < 1000 }, fun _ => Iff.rfl, hH1, fun _ _ => rfl, ⟨⟨Wf.refl _ _, Nat.le_refl _, by simp [E]⟩, ⟨hle1, hle1⟩, ?_⟩, rfl, ?_, ?_⟩, ?_⟩
    · intro n ob hn
      rw [hget_mapIdx] at hn
      exact .inl ⟨by have := (List.getElem?_eq_some_iff.1 hn).1; simp only [E, Cx.enter]; omega, rfl⟩
    · show (vs.toArray ++ Array.replicate (fn.ntmps - vs.toArray.size) undef).size = fn.ntmps
      simp; omega
    · intro k
      refine AR.mono hle1 ?_
      show AR (C.enter ns) (tget (args.mapIdx fun i x => (i, x)) k) _
      rw [tget_mapIdx]
      by_cases hk : k < args.length
      · have e1 : args[k]? = some args[k] := by simp [hk]
        have e2 : avs[k]? = some (avs[k]'(by omega)) := List.getElem?_eq_getElem _
        obtain ⟨u, hu, hxu⟩ := hargs.get e2
        rw [List.getD_eq_getElem?_getD, e1, Option.getD_some]
        have e : (vs.toArray ++ Array.replicate (fn.ntmps - vs.toArray.size) undef).getD k undef = u := by
          rw [Array.getD_eq_getD_getElem?, Array.getElem?_append_left (by simpa using (List.getElem?_eq_some_iff.1 hu).1)]
          simp [hu]
        show AR (C.enter ns) args[k] ((vs.toArray ++ Array.replicate (fn.ntmps - vs.toArray.size) undef).getD k undef)
        rw [e]
        exact har hxu (m2 k _ _ e2 e1)
      · rw [List.getD_eq_getElem?_getD, List.getElem?_eq_none (by omega)]; exact .u _
    · intro n hn; simp only [E, Cx.enter] at hn; show n < 1000; omega
  refine wpIn_mono (aw_ok hm code sc E hcomp (fun b hb => .inl hb) (by simp [E]) (.inl rfl) _ _ _ _ h hs0) ?_
  rintro e a' w1 ⟨E', x, s, hE, -, hxr, ⟨hx, hq, hfin, hnw⟩, hsr⟩
  obtain ⟨⟨D, hal, hD, hrd', ⟨hwf, hle, hst⟩, hdf, hsz, htm⟩, -⟩ := hsr
  obtain ⟨Ds, hD1, hD2, hD3⟩ := hE.df
  obtain ⟨w', hD, hwf, hlv⟩ := shut (P := P) Ds w1 hD hwf.wf (fun D hD => ⟨hwf.pn _ (hD3 D hD).1, by rw [hE.w0]; exact (hD3 D hD).2⟩) hD2
  rw [hE.w0] at hwf hrd' hst
  rw [hE.rd0] at hrd'
  rw [hE.C0] at hst
  have hle : E.C0.Le D := hE.C0 ▸ hle.c0
  have hD : HR D (Dom.hget s.h) E.wr w' := ⟨hD.rdw, hD.live, hD.dead, hD.sep, hD.inj, fun n ob hn => hE.wr _ (hD.wr n ob hn), hD.obj, hD.typ⟩
  have hwf : Wf E.wr w w' := ⟨hwf.os, hwf.tape, hwf.output, hwf.size, fun b hb hn => hwf.blk b hb fun h => hn (hE.wr b h)⟩
  have hdf : a'.defers = Ds.map mark := by rw [hdf, hD1]; exact List.append_nil _
  split at hq
  · rename_i l p hl
    obtain ⟨hp, hq⟩ := hq
    split at hq
    · rename_i l' hl'
      have L : Left C D hf (Dom.hget s.h) wr w w' ns nm j := by
        refine ⟨hC, hD, hnd, ?_, hnm, fun b hb => hrd' b (.inl hb), hwf, hle, hst, ?_⟩
        · intro n hn
          obtain ⟨i, hi, rfl⟩ := List.getElem_of_mem hn
          exact ⟨_, hlive i _ _ (List.getElem?_eq_getElem hi) (List.getElem?_eq_getElem (by omega))⟩
        · intro n hj
          subst hj
          cases nw with
          | none => simp [finN] at hnw
          | some o => rw [← hol]; exact hnw.1
      rw [hol] at hfin hnw hl'
      have H := L.heap2 hln hlive hob hfin hnw hup
      obtain ⟨us, hus, hrel⟩ := res_okA (P := P) hD htm fn.results.toList rs hres l p hl hp
      have hrun : (results fn a'.tmps).run P w' = .ok (if h : us.length = 1 then us[0] else .tuple us.toArray) w' := by
        have key : results fn a'.tmps = (Functor.map List.toArray (fn.results.toList.mapM (fun
            | .tmp t => pure (a'.tmps.getD t undef)
            | .cell q ty => do loadVar ty (← asAddr (a'.tmps.getD q undef)) : ResultVar → Sem Value))) >>= fun vs => pure (if h : vs.size = 1 then vs[0] else .tuple vs) := by
          unfold results; rw [Array.mapM_eq_mapM_toList]; rfl
        have hus2 : (fn.results.toList.mapM (fun
            | .tmp t => pure (a'.tmps.getD t undef)
            | .cell q ty => do loadVar ty (← asAddr (a'.tmps.getD q undef)) : ResultVar → Sem Value)).run P w' = .ok us w' := hus
        rw [key]
        simp only [Sem.run_bind, Sem.run_map, hus2, Result.andThen, Sem.run_pure]
        by_cases h1 : us.length = 1
        · simp [h1]
        · simp [h1]
      obtain ⟨n1, n2⟩ := mapO_some hl'
      have hval : AR (C.leave D ns nm j (Dom.hget s.h) w w') v' (if h : us.length = 1 then us[0] else .tuple us.toArray) := by
        rw [← hq] at hv
        unfold mkResA at hv
        split at hv
        · rename_i y
          have hl1 : l.length = 1 := by simpa using n1
          obtain ⟨x0, rfl⟩ := List.length_eq_one_iff.1 hl1
          obtain ⟨u, us', rfl, hu, hnil⟩ := hrel.uncons
          have := hnil.nil_inv; subst this
          exact L.outV hu (n2 0 x0 y rfl rfl) hv
        · rename_i hne
          have hl1 : us.length ≠ 1 := by
            intro h1
            have := hrel.1
            have h2 : l'.length = 1 := by omega
            obtain ⟨y, rfl⟩ := List.length_eq_one_iff.1 h2
            exact hne y rfl
          rw [dif_neg hl1]
          simp only [AV.ren] at hv
          split at hv
          · rename_i l'' hl''
            simp only [Option.some.injEq] at hv; subst hv
            obtain ⟨r1, r2⟩ := renL_some hl''
            refine .tup l'' us (by have := hrel.1; omega) fun k a u ha hu => ?_
            have hk := (List.getElem?_eq_some_iff.1 ha).1
            have e1 : l[k]? = some (l[k]'(by omega)) := List.getElem?_eq_getElem _
            have e2 : l'[k]? = some (l'[k]'(by omega)) := List.getElem?_eq_getElem _
            exact L.outV (hrel.2 k _ u e1 hu) (n2 k _ _ e1 e2) (r2 k _ a e2 ha)
          · cases hv
      have fin : ∃ val C', Ending.returned (if h : us.length = 1 then us[0] else .tuple us.toArray) = .returned val ∧ AR C' v' val ∧ HR C' (updF hf up) wr w' ∧ C.Le C' ∧ (∀ n, C'.al n ↔ C.al n ∨ n = nm) ∧ Wf wr w w' ∧ (∀ b, b < base → C'.rd b = C.rd b) ∧ Stay base C C' hf (updF hf up) := by
        refine ⟨_, C.leave D ns nm j (Dom.hget s.h) w w', rfl, hval, L.heap (fun b hb => hwr b (Nat.le_trans hbase hb)) H, L.leC, fun _ => Iff.rfl, ⟨hwf.os, hwf.tape, hwf.output, hwf.size, fun b hb hnw => hwf.blk b hb fun hin => hnw (L.wrOf (fun b hb => hwr b (Nat.le_trans hbase hb)) hin)⟩, ?_, L.stay hbase H⟩
        intro b hb
        funext o
        have : b < w.heap.size := Nat.lt_of_lt_of_le hb hbase
        simp [Cx.leave, this]
      cases hxr with
      | normal => simp only [bodyPostM, hdf]; exact hlv _ _ _ ⟨_, hrun, fin⟩
      | ret => simp only [bodyPostM, hdf]; exact hlv _ _ _ ⟨_, hrun, fin⟩
      | exit id => exact hx.elim
    · exact hq.elim
  · exact hq.elim

end
end Go.Dom

/-
  THE LOGIC AS A MACHINE: what is still to do is data, so that the simplifier goes along without looking into continuations. Own work; generic over the program.
-/
set_option linter.all false
namespace Go.Dom
open Go.RowKit

/-- What is still to do. -/
inductive Fr where
  | seq (b : SC)
  | blk (id : Nat)
  | lp (R : AS → Prop)
  | asg (b : SC)
  | rg (t0 : List (Nat × AV)) (R : AS → Prop)
  | bk (ns : List Nat) (t0 : List (Nat × AV)) (obs : List (Nat × Option AObj))

/-- The rest, as a postcondition. -/
def KW (P : Program) [Tabs P] (Q : AX → AS → Prop) : List Fr → AX → AS → Prop
  | [], e, s => Q e s
  | .seq b :: K, .normal, s => aw P b (KW P Q K) s
  | .seq _ :: K, .exit j, s => KW P Q K (.exit j) s
  | .seq _ :: K, .ret, s => KW P Q K .ret s
  | .blk _ :: K, .normal, s => KW P Q K .normal s
  | .blk id :: K, .exit j, s => if j = id then KW P Q K .normal s else KW P Q K (.exit j) s
  | .blk _ :: K, .ret, s => KW P Q K .ret s
  | .lp R :: _, .normal, s => R s
  | .lp _ :: K, .exit j, s => KW P Q K (.exit j) s
  | .lp _ :: K, .ret, s => KW P Q K .ret s
  | .asg b :: K, .normal, s => aw P b (KW P Q K) s
  | .asg _ :: _, .exit _, _ => False
  | .asg _ :: _, .ret, _ => False
  | .bk ns t0 obs :: K, e, s => (∀ p ∈ s.h, ∀ c ∈ p.2.cells, c.off ns = true) ∧ KW P Q K e ⟨t0, hputs s.h obs, s.nx⟩
  | .rg t0 R :: _, .normal, s => R { s with t := t0 }
  | .rg t0 _ :: K, .exit j, s => KW P Q K (.exit j) { s with t := t0 }
  | .rg t0 _ :: K, .ret, s => KW P Q K .ret { s with t := t0 }

section
variable (P : Program) [Tabs P] (Q : AX → AS → Prop)

/-- Code, then the rest. -/
def CW (sc : SC) (K : List Fr) (s : AS) : Prop := aw P sc (KW P Q K) s

def chkO (bf : Option (List Nat)) (tr : List (Nat × List Nat × List Nat)) : Prop :=
  match bf with
  | none => True
  | some b => chk b tr = true

def trU (bf : Option (List Nat)) (k : Nat) (rs : List Nat) (up : List (Nat × Option AObj)) (tr : List (Nat × List Nat × List Nat)) : List (Nat × List Nat × List Nat) :=
  match bf with
  | none => []
  | some _ => (k, rs, up.map (·.1)) :: tr

/-- A region, then the rest. -/
def RW (nx : Nat) (bf : Option (List Nat)) (n : Nat) (ops : List SOp) (k : Nat) (s : AS) (tr : List (Nat × List Nat × List Nat)) (K : List Fr) : Prop :=
  match bf with
  | none => awOps P nx ops k s fun s' => KW P Q K .normal { s' with nx := n }
  | some b => awTr P nx ops k s tr fun s' tr => chk b tr = true ∧ KW P Q K .normal { s' with nx := n }

/-- What an operation came to, then the rest. -/
def OW (nx : Nat) (bf : Option (List Nat)) (n : Nat) (x : Option AO) (d : Option Nat) (ops : List SOp) (k : Nat) (s : AS) (tr : List (Nat × List Nat × List Nat)) (K : List Fr) : Prop :=
  optW x fun ao => RW P Q nx bf n ops (k + 1) (s.upd d ao.v ao.up) (trU bf k ao.rs ao.up tr) K

/-- A call, then the rest. -/
def CR (nx : Nat) (bf : Option (List Nat)) (n : Nat) (nm : Nat) (fv : AV) (avs : List AV) (d : Option Nat) (ops : List SOp) (k : Nat) (s : AS) (tr : List (Nat × List Nat × List Nat)) (K : List Fr) : Prop :=
  CallW P nm s.h fv avs fun ao => RW P Q nx bf n ops (k + 1) (s.upd d ao.v ao.up) (trU bf k ao.rs ao.up tr) K

/-- A guard, then the rest. -/
def GR (nx : Nat) (bf : Option (List Nat)) (n : Nat) (v : AV) (t : Nat) (want : Bool) (d : Option Nat) (o : SO) (ops : List SOp) (k : Nat) (s : AS) (tr : List (Nat × List Nat × List Nat)) (K : List Fr) : Prop :=
  gdW v t want s (fun s => RW P Q nx bf n (⟨d, o, none⟩ :: ops) k s tr K) (fun s => RW P Q nx bf n ops (k + 1) (s.upd d (.v (.tup [])) []) (trU bf k [] [] tr) K)

/-- A condition, then the rest. -/
def CC (c : Bool) (a b : SC) (K : List Fr) (s : AS) : Prop := bcase c (CW P Q a K s) (CW P Q b K s)
def CV (v : AV) (a b : SC) (K : List Fr) (s : AS) : Prop := condW v (CW P Q a K s) (CW P Q b K s)
/-- A guard whose bool is known, then the rest. -/
def GB (nx : Nat) (bf : Option (List Nat)) (n : Nat) (x : Bool) (t : Nat) (want : Bool) (d : Option Nat) (o : SO) (ops : List SOp) (k : Nat) (s : AS) (tr : List (Nat × List Nat × List Nat)) (K : List Fr) : Prop :=
  GR P Q nx bf n (.v (.b x)) t want d o ops k s tr K

/-- The rounds of a range over a function, then the rest. -/
def RgR (ps : List Nat) (a b : SC) (K : List Fr) (t0 : List (Nat × AV)) (N : Nat) (xs : List (List PV)) (s : AS) : Prop :=
  RngW (fun y Qx s1 => aw P a (fun e s2 => match e with
    | .normal => aw P b Qx s2
    | _ => False) { s1 with t := setPs s1.t ps y }) (KW P Q K) t0 N xs s
def LoopR (a : SC) (K : List Fr) (N : Nat) (s : AS) : Prop := LoopW (aw P a) (KW P Q K) N s

variable {P Q}

theorem CW.start {sc : SC} {s : AS} (h : CW P Q sc [] s) : aw P sc Q s := by
  have : KW P Q [] = Q := by funext e s; rfl
  unfold CW at h; rw [this] at h; exact h

theorem EvA.mk' {f : FuncId} {fn : Func} {sc : SC} {rs : List SRes} (hm : P.follows .mixedOrders = true) (hent : Enters P f f) (hfn : P.funcs[f]? = some fn) (hb : fn.body.isSome = true) (hc : comp P fn.ntmps (fn.body.getD .skip) = some sc) (hr : compRes P fn.results.toList = some rs)
    {obs : List AObj} {args : List AV} {fs : List (Option (Option AObj))} {j : Option Nat} {nw : Option AObj} {v : AV} (hlen : args.length ≤ fn.ntmps) (h : CW P (RetA rs obs fs j nw v) sc [] ⟨args.mapIdx (fun i x => (i, x)), obs.mapIdx (fun i x => (i, x)), 1000⟩)
    {ns : List Nat} {nm : Nat} {obsA : List AObj} {avs : List AV} {v' : AV} {up : List (Nat × Option AObj)} (hns : ns.length ≤ 1000) (hnd : ns.Nodup) (hln : ns.length = obsA.length) (hob : mapO (AObj.ren (ixOf ns)) obsA = some obs) (hav : mapO (AV.ren (ixOf ns)) avs = some args)
    (hv : v.ren (bkOf ns nm) = some v') (hup : upsOf ns nm fs nw = some up) : EvA P f nm (ns.zip obsA) avs v' up := by
  obtain ⟨code, hcode⟩ := Option.isSome_iff_exists.1 hb
  rw [hcode] at hc
  exact EvA.of_aw hm hent hfn hcode hc hr hlen (CW.start h) hns hnd hln hob hav hv hup

theorem CW_skip (K : List Fr) (s : AS) : CW P Q .skip K s = KW P Q K .normal s := rfl
theorem CW_seq (a b : SC) (K : List Fr) (s : AS) : CW P Q (.seq a b) K s = CW P Q a (.seq b :: K) s := by
  simp only [CW, aw]
  congr 1
  funext e s'
  cases e <;> rfl
theorem CW_blk (id : Nat) (a : SC) (K : List Fr) (s : AS) : CW P Q (.blk id a) K s = CW P Q a (.blk id :: K) s := by
  simp only [CW, aw]
  congr 1
  funext e s'
  cases e <;> rfl
theorem CW_cond (x : SX) (a b : SC) (K : List Fr) (s : AS) : CW P Q (.cond x a b) K s = CV P Q (x.ev (tget s.t)) a b K s := rfl
theorem CV_b (c : Bool) (a b : SC) (K : List Fr) (s : AS) : CV P Q (.v (.b c)) a b K s = CC P Q c a b K s := rfl
theorem CV_ub (a b : SC) (K : List Fr) (s : AS) : CV P Q .ub a b K s = (CW P Q a K s ∧ CW P Q b K s) := rfl
theorem CC_T (a b : SC) (K : List Fr) (s : AS) : CC P Q true a b K s = CW P Q a K s := by simp only [CC, bcase_true]
theorem CC_F (a b : SC) (K : List Fr) (s : AS) : CC P Q false a b K s = CW P Q b K s := by simp only [CC, bcase_false]
theorem CC_b (c : Bool) (a b : SC) (K : List Fr) (s : AS) : CC P Q c a b K s = bcase c (CW P Q a K s) (CW P Q b K s) := rfl
theorem CC.mk {c : Bool} {a b : SC} {K : List Fr} {s : AS} (h1 : c = true → CW P Q a K s) (h2 : c = false → CW P Q b K s) : CC P Q c a b K s := ⟨h1, h2⟩
theorem CW_loop (a : SC) (K : List Fr) (s : AS) : CW P Q (.loop a) K s = LoopR P Q a K s.nx s := rfl
theorem CW_exit (id : Nat) (K : List Fr) (s : AS) : CW P Q (.exit id) K s = KW P Q K (.exit id) s := rfl
theorem CW_ret (K : List Fr) (s : AS) : CW P Q .ret K s = KW P Q K .ret s := rfl
theorem CW_stop (K : List Fr) (s : AS) : CW P Q .stop K s = False := rfl
theorem CW_reg (bf : Option (List Nat)) (ops : List SOp) (K : List Fr) (s : AS) : CW P Q (.reg bf ops) K s = RW P Q s.nx bf (s.nx + ops.length) ops 0 s [] K := by
  cases bf <;> rfl

theorem KW_nil (e : AX) (s : AS) : KW P Q [] e s = Q e s := rfl
theorem KW_seqN (b : SC) (K : List Fr) (s : AS) : KW P Q (.seq b :: K) .normal s = CW P Q b K s := rfl
theorem KW_seqE (b : SC) (K : List Fr) (j : Nat) (s : AS) : KW P Q (.seq b :: K) (.exit j) s = KW P Q K (.exit j) s := rfl
theorem KW_seqR (b : SC) (K : List Fr) (s : AS) : KW P Q (.seq b :: K) .ret s = KW P Q K .ret s := rfl
theorem KW_blkN (i : Nat) (K : List Fr) (s : AS) : KW P Q (.blk i :: K) .normal s = KW P Q K .normal s := rfl
theorem KW_blkE (i : Nat) (K : List Fr) (j : Nat) (s : AS) : KW P Q (.blk i :: K) (.exit j) s = if j = i then KW P Q K .normal s else KW P Q K (.exit j) s := rfl
theorem KW_blkR (i : Nat) (K : List Fr) (s : AS) : KW P Q (.blk i :: K) .ret s = KW P Q K .ret s := rfl
theorem CW_rng {x : SX} {ps : List Nat} {a b : SC} {K : List Fr} {s : AS} {g : FuncId} {caps : List PV} {xs : List (List PV)} (hi : ItP P g caps xs) (hx : x.ev (tget s.t) = .v (.fc g [] caps)) (hl : ∀ y ∈ xs, y.length = ps.length) (h : RgR P Q ps a b K s.t s.nx xs s) : CW P Q (.rng x ps a b) K s := by
  have e : backQ [] s (KW P Q K) = KW P Q K := by funext e s'; simp [backQ]
  refine ⟨g, caps, xs, [], by rw [hx]; rfl, by rw [hx]; simp [viewN], by simp, hi, fun y hy => ⟨hl y hy, .inl rfl⟩, ?_⟩
  rw [e]; exact h
/-- A range over a function that reads own objects. -/
theorem CW_rngO {x : SX} {ps : List Nat} {a b : SC} {K : List Fr} {s : AS} {g : FuncId} {caps : List PV} {xs : List (List PV)} (ns : List Nat) (hi : ItP P g caps xs) (hx : view (hget s.h) 9 (x.ev (tget s.t)) = some (.fc g [] caps)) (hn : ∀ n ∈ viewN (hget s.h) 9 (x.ev (tget s.t)), n ∈ ns) (hne : ns ≠ []) (hlo : ∀ n ∈ ns, 1000 ≤ n) (hl : ∀ y ∈ xs, y.length = ps.length) (hf : ∀ y ∈ xs, ∀ p ∈ y, p.flat = true)
    (h : RgR P Q ps a b (.bk ns s.t (ns.map fun n => (n, hget s.h n)) :: K) s.t s.nx xs ⟨s.t, hputs s.h (ns.map fun n => (n, none)), s.nx⟩) : CW P Q (.rng x ps a b) K s := by
  have e : backQ ns s (KW P Q K) = KW P Q (.bk ns s.t (ns.map fun n => (n, hget s.h n)) :: K) := by funext e s'; simp only [backQ, if_neg hne]; rfl
  refine ⟨g, caps, xs, ns, hx, hn, hlo, hi, fun y hy => ⟨hl y hy, .inr (hf y hy)⟩, ?_⟩
  rw [e]; exact h
section
variable {ps : List Nat} {a b : SC} {K : List Fr} {t0 : List (Nat × AV)} {N : Nat} {s : AS}
theorem rg_nil (h : KW P Q K .normal s) : RgR P Q ps a b K t0 N [] s := fun X h1 _ _ => h1 _ h
theorem rg_weak {s' : AS} {ys : List (List PV)} (hN : N ≤ s'.nx) (hle : s'.Le s) (h : RgR P Q ps a b K t0 N ys s') : RgR P Q ps a b K t0 N ys s := fun X h1 h2 h3 => h3 ys s' s hN hle (h X h1 h2 h3)
theorem rg_cons {y : List PV} {ys : List (List PV)} (h : CW P Q a (.asg b :: .rg t0 (RgR P Q ps a b K t0 N ys) :: K) { s with t := setPs s.t ps y }) : RgR P Q ps a b K t0 N (y :: ys) s := by
  intro X h1 h2 h3
  refine h2 y ys s (aw_mono (fun e s2 hs => ?_) h)
  cases e with
  | normal =>
    refine aw_mono (fun e s3 hs3 => ?_) hs
    cases e with
    | normal => exact hs3 X h1 h2 h3
    | exit j => exact hs3
    | ret => exact hs3
  | exit j => exact hs
  | ret => exact hs
theorem rg_run {xs : List (List PV)} {α : Type} (st : α → AS) (ok : List (List PV) → α → Prop) (a0 : α) (hN : ∀ x, N ≤ (st x).nx) (h0 : ok xs a0) (hle : (st a0).Le s) (hnil : ∀ x, ok [] x → KW P Q K .normal (st x))
    (hcons : ∀ y ys x, ok (y :: ys) x → ∀ R : AS → Prop, (∀ x', ok ys x' → ∀ s', (st x').Le s' → R s') → CW P Q a (.asg b :: .rg t0 R :: K) { st x with t := setPs (st x).t ps y }) : RgR P Q ps a b K t0 N xs s := by
  refine rg_weak (hN a0) hle ?_
  clear hle
  induction xs generalizing a0 with
  | nil => exact rg_nil (hnil a0 h0)
  | cons y ys ih => exact rg_cons (hcons y ys a0 h0 _ fun x' hx' s' hs' => rg_weak (hN x') hs' (ih x' hx'))
end
theorem KW_asgN (b : SC) (K : List Fr) (s : AS) : KW P Q (.asg b :: K) .normal s = CW P Q b K s := rfl
theorem KW_bk (ns : List Nat) (t0 : List (Nat × AV)) (obs : List (Nat × Option AObj)) (K : List Fr) (e : AX) (s : AS) : KW P Q (.bk ns t0 obs :: K) e s = ((∀ p ∈ s.h, ∀ c ∈ p.2.cells, c.off ns = true) ∧ KW P Q K e ⟨t0, hputs s.h obs, s.nx⟩) := rfl
theorem KW_rgN (t0 : List (Nat × AV)) (R : AS → Prop) (K : List Fr) (s : AS) : KW P Q (.rg t0 R :: K) .normal s = R ⟨t0, s.h, s.nx⟩ := rfl
theorem KW_rgE (t0 : List (Nat × AV)) (R : AS → Prop) (K : List Fr) (j : Nat) (s : AS) : KW P Q (.rg t0 R :: K) (.exit j) s = KW P Q K (.exit j) ⟨t0, s.h, s.nx⟩ := rfl
theorem KW_rgR (t0 : List (Nat × AV)) (R : AS → Prop) (K : List Fr) (s : AS) : KW P Q (.rg t0 R :: K) .ret s = KW P Q K .ret ⟨t0, s.h, s.nx⟩ := rfl
theorem KW_lpN (R : AS → Prop) (K : List Fr) (s : AS) : KW P Q (.lp R :: K) .normal s = R s := rfl
theorem KW_lpE (R : AS → Prop) (K : List Fr) (j : Nat) (s : AS) : KW P Q (.lp R :: K) (.exit j) s = KW P Q K (.exit j) s := rfl
theorem KW_lpR (R : AS → Prop) (K : List Fr) (s : AS) : KW P Q (.lp R :: K) .ret s = KW P Q K .ret s := rfl

section
variable (nx : Nat) (bf : Option (List Nat)) (n : Nat) (d : Option Nat) (ops : List SOp) (k : Nat) (s : AS) (tr : List (Nat × List Nat × List Nat)) (K : List Fr)

theorem RW_nil : RW P Q nx bf n [] k s tr K = (chkO bf tr ∧ KW P Q K .normal { s with nx := n }) := by
  cases bf
  · simp only [RW, awOps, chkO, true_and]
  · rfl
/-- An operation, then the rest. -/
def XW (P : Program) [Tabs P] (Q : AX → AS → Prop) (nx : Nat) (bf : Option (List Nat)) (n : Nat) (o : SO) (d : Option Nat) (ops : List SOp) (k : Nat) (s : AS) (tr : List (Nat × List Nat × List Nat)) (K : List Fr) : Prop :=
  match o with
  | .call f args => CR P Q nx bf n (nx + k) (f.ev (tget s.t)) (args.map (SX.ev (tget s.t))) d ops k s tr K
  | o => OW P Q nx bf n (aop (nx + k) o (tget s.t) (hget s.h)) d ops k s tr K

theorem RW_op (o : SO) : RW P Q nx bf n (⟨d, o, none⟩ :: ops) k s tr K = XW P Q nx bf n o d ops k s tr K := by
  cases o <;> cases bf <;> rfl

theorem RW_gd (o : SO) (t : Nat) (want : Bool) : RW P Q nx bf n (⟨d, o, some (t, want)⟩ :: ops) k s tr K = GR P Q nx bf n (tget s.t t) t want d o ops k s tr K := by
  cases bf <;> rfl

theorem OW_some (v : AV) (p : Prop) (rs : List Nat) (up : List (Nat × Option AObj)) : OW P Q nx bf n (some ⟨v, p, rs, up⟩) d ops k s tr K = (p ∧ RW P Q nx bf n ops (k + 1) (s.upd d v up) (trU bf k rs up tr) K) := rfl
theorem OW_none : OW P Q nx bf n none d ops k s tr K = False := rfl

theorem GR_b (x : Bool) (t : Nat) (want : Bool) (o : SO) : GR P Q nx bf n (.v (.b x)) t want d o ops k s tr K = GB P Q nx bf n x t want d o ops k s tr K := rfl
theorem GB_TT (t : Nat) (o : SO) : GB P Q nx bf n true t true d o ops k s tr K = RW P Q nx bf n (⟨d, o, none⟩ :: ops) k (s.set t (.v (.b true))) tr K := by simp only [GB, GR, gdW, bcase_true]
theorem GB_FT (t : Nat) (o : SO) : GB P Q nx bf n false t true d o ops k s tr K = RW P Q nx bf n ops (k + 1) ((s.set t (.v (.b false))).upd d (.v (.tup [])) []) (trU bf k [] [] tr) K := by simp only [GB, GR, gdW, bcase_false]
theorem GB_TF (t : Nat) (o : SO) : GB P Q nx bf n true t false d o ops k s tr K = RW P Q nx bf n ops (k + 1) ((s.set t (.v (.b true))).upd d (.v (.tup [])) []) (trU bf k [] [] tr) K := by simp only [GB, GR, gdW, bcase_true]
theorem GB_FF (t : Nat) (o : SO) : GB P Q nx bf n false t false d o ops k s tr K = RW P Q nx bf n (⟨d, o, none⟩ :: ops) k (s.set t (.v (.b false))) tr K := by simp only [GB, GR, gdW, bcase_false]
/-- A guard that is not known: two ways. -/
theorem GB.mk {nx : Nat} {bf : Option (List Nat)} {n : Nat} {d : Option Nat} {ops : List SOp} {k : Nat} {s : AS} {tr : List (Nat × List Nat × List Nat)} {K : List Fr} {x : Bool} {t : Nat} {want : Bool} {o : SO} (h1 : x = true → GB P Q nx bf n true t want d o ops k s tr K) (h2 : x = false → GB P Q nx bf n false t want d o ops k s tr K) : GB P Q nx bf n x t want d o ops k s tr K := by
  cases x
  · exact h2 rfl
  · exact h1 rfl
theorem GR_undef (t : Nat) (want : Bool) (o : SO) : GR P Q nx bf n (.v (.tup [])) t want d o ops k s tr K = RW P Q nx bf n ops (k + 1) (s.upd d (.v (.tup [])) []) (trU bf k [] [] tr) K := by simp only [GR, gdW]

theorem chkO_none : chkO none tr = True := rfl
theorem chkO_some (b : List Nat) : chkO (some b) tr = (chk b tr = true) := rfl
theorem trU_none (rs : List Nat) (up : List (Nat × Option AObj)) : trU none k rs up tr = [] := rfl
theorem trU_some (b : List Nat) (rs : List Nat) (up : List (Nat × Option AObj)) : trU (some b) k rs up tr = (k, rs, up.map (·.1)) :: tr := rfl

/-- A pure call. -/
theorem CR_pure {nx : Nat} {bf : Option (List Nat)} {n : Nat} {d : Option Nat} {ops : List SOp} {k : Nat} {s : AS} {tr : List (Nat × List Nat × List Nat)} {K : List Fr} {nm : Nat} {f : FuncId} {avs : List AV} {pvs : List PV} {r : PV} (he : EvP P f pvs r) (ha : pvArgs avs = some pvs) (hK : RW P Q nx bf n ops (k + 1) (s.upd d (.v r) []) (trU bf k [] [] tr) K) :
    CR P Q nx bf n nm (.v (.fn (.func f))) avs d ops k s tr K := ⟨_, .pure f avs pvs r rfl ha he, hK⟩
/-- A call of a function with bound and captured values. -/
theorem CR_fn {nx : Nat} {bf : Option (List Nat)} {n : Nat} {d : Option Nat} {ops : List SOp} {k : Nat} {s : AS} {tr : List (Nat × List Nat × List Nat)} {K : List Fr} {nm : Nat} {f : FuncId} {a c avs : List AV} :
    CR P Q nx bf n nm (.fn (.func f) a c) avs d ops k s tr K = CR P Q nx bf n nm (.v (.fn (.func f))) (a ++ (avs ++ c)) d ops k s tr K := by
  have h : ∀ ao, ACall P nm (hget s.h) (.fn (.func f) a c) avs ao ↔ ACall P nm (hget s.h) (.v (.fn (.func f))) (a ++ (avs ++ c)) ao := by
    intro ao
    constructor
    · intro h
      cases h with
      | pure f avs pvs r hfv hargs he => exact .pure f avs pvs r hfv hargs he
      | view f avs pvs r hfv hargs hr he => exact .view f avs pvs r hfv hargs hr he
      | give f avs pvs r hfv hargs hlo he => exact .give f avs pvs r hfv hargs hlo he
      | eff f avs hs v up hfv hhs he => exact .eff f avs hs v up hfv hhs he
      | same f v hfv he => exact .same f v hfv he
      | ext f avs pvs r hfv hargs he => exact .ext f avs pvs r hfv hargs he
    · intro h
      cases h with
      | pure f avs pvs r hfv hargs he => exact .pure f avs pvs r hfv hargs he
      | view f avs pvs r hfv hargs hr he => exact .view f avs pvs r hfv hargs hr he
      | give f avs pvs r hfv hargs hlo he => exact .give f avs pvs r hfv hargs hlo he
      | eff f avs hs v up hfv hhs he => exact .eff f avs hs v up hfv hhs he
      | same f v hfv he => exact .same f v hfv he
      | ext f avs pvs r hfv hargs he => exact .ext f avs pvs r hfv hargs he
  unfold CR CallW
  simp only [h]
/-- A call of a function with pure data. -/
theorem CR_fc {nx : Nat} {bf : Option (List Nat)} {n : Nat} {d : Option Nat} {ops : List SOp} {k : Nat} {s : AS} {tr : List (Nat × List Nat × List Nat)} {K : List Fr} {nm : Nat} {f : FuncId} {a c : List PV} {avs : List AV} :
    CR P Q nx bf n nm (.v (.fc f a c)) avs d ops k s tr K = CR P Q nx bf n nm (.v (.fn (.func f))) (a.map .v ++ (avs ++ c.map .v)) d ops k s tr K := by
  have h : ∀ ao, ACall P nm (hget s.h) (.v (.fc f a c)) avs ao ↔ ACall P nm (hget s.h) (.v (.fn (.func f))) (a.map .v ++ (avs ++ c.map .v)) ao := by
    intro ao
    constructor
    · intro h
      cases h with
      | pure f avs pvs r hfv hargs he => exact .pure f avs pvs r hfv hargs he
      | view f avs pvs r hfv hargs hr he => exact .view f avs pvs r hfv hargs hr he
      | give f avs pvs r hfv hargs hlo he => exact .give f avs pvs r hfv hargs hlo he
      | eff f avs hs v up hfv hhs he => exact .eff f avs hs v up hfv hhs he
      | same f v hfv he => exact .same f v hfv he
      | ext f avs pvs r hfv hargs he => exact .ext f avs pvs r hfv hargs he
    · intro h
      cases h with
      | pure f avs pvs r hfv hargs he => exact .pure f avs pvs r hfv hargs he
      | view f avs pvs r hfv hargs hr he => exact .view f avs pvs r hfv hargs hr he
      | give f avs pvs r hfv hargs hlo he => exact .give f avs pvs r hfv hargs hlo he
      | eff f avs hs v up hfv hhs he => exact .eff f avs hs v up hfv hhs he
      | same f v hfv he => exact .same f v hfv he
      | ext f avs pvs r hfv hargs he => exact .ext f avs pvs r hfv hargs he
  unfold CR CallW
  simp only [h]
/-- A pure call that looks into own objects. -/
theorem CR_view {nx : Nat} {bf : Option (List Nat)} {n : Nat} {d : Option Nat} {ops : List SOp} {k : Nat} {s : AS} {tr : List (Nat × List Nat × List Nat)} {K : List Fr} {nm : Nat} {f : FuncId} {avs : List AV} {pvs : List PV} {r : PV} (he : EvP P f pvs r) (ha : mapO (view (hget s.h) 9) avs = some pvs) (hr : r.flat = true) (hK : RW P Q nx bf n ops (k + 1) (s.upd d (.v r) []) (trU bf k (avs.flatMap (viewN (hget s.h) 9)) [] tr) K) :
    CR P Q nx bf n nm (.v (.fn (.func f))) avs d ops k s tr K := ⟨_, .view f avs pvs r rfl ha hr he, hK⟩
/-- A pure call that is given own objects. -/
theorem CR_give {nx : Nat} {bf : Option (List Nat)} {n : Nat} {d : Option Nat} {ops : List SOp} {k : Nat} {s : AS} {tr : List (Nat × List Nat × List Nat)} {K : List Fr} {nm : Nat} {f : FuncId} {avs : List AV} {pvs : List PV} {r : PV} (ns : List Nat) (he : EvP P f pvs r) (hlo : ns.all (fun n => decide (1000 ≤ n)) = true) (hv : avs.flatMap (viewN (hget s.h) 9) = ns) (ha : mapO (view (hget s.h) 9) avs = some pvs)
    (hK : RW P Q nx bf n ops (k + 1) (s.upd d (.v r) (ns.map fun n => (n, none))) (trU bf k ns (ns.map fun n => (n, none)) tr) K) :
    CR P Q nx bf n nm (.v (.fn (.func f))) avs d ops k s tr K := by
  subst hv
  exact ⟨_, .give f avs pvs r rfl ha (fun n hn => of_decide_eq_true (List.all_eq_true.1 hlo n hn)) he, hK⟩
/-- A call with effects. -/
theorem CR_eff {nx : Nat} {bf : Option (List Nat)} {n : Nat} {d : Option Nat} {ops : List SOp} {k : Nat} {s : AS} {tr : List (Nat × List Nat × List Nat)} {K : List Fr} {nm : Nat} {f : FuncId} {avs : List AV} {hs : List (Nat × AObj)} {v : AV} {up : List (Nat × Option AObj)} (he : EvA P f nm hs avs v up) (hh : ∀ p ∈ hs, hget s.h p.1 = some p.2) (hK : RW P Q nx bf n ops (k + 1) (s.upd d v up) (trU bf k (hs.map (·.1)) up tr) K) :
    CR P Q nx bf n nm (.v (.fn (.func f))) avs d ops k s tr K := ⟨_, .eff f avs hs v up rfl hh he, hK⟩
/-- A call of a function of the model's that returns its argument. -/
theorem CR_same {nx : Nat} {bf : Option (List Nat)} {n : Nat} {d : Option Nat} {ops : List SOp} {k : Nat} {s : AS} {tr : List (Nat × List Nat × List Nat)} {K : List Fr} {nm : Nat} {f : FuncId} {v : AV} (he : EvS P f) (hK : RW P Q nx bf n ops (k + 1) (s.upd d v []) (trU bf k [] [] tr) K) :
    CR P Q nx bf n nm (.v (.fn (.func f))) [v] d ops k s tr K := ⟨_, .same f v rfl he, hK⟩
end

/-- A call of a function of the model's. -/
theorem CR_ext {nx : Nat} {bf : Option (List Nat)} {n : Nat} {d : Option Nat} {ops : List SOp} {k : Nat} {s : AS} {tr : List (Nat × List Nat × List Nat)} {K : List Fr} {nm : Nat} {f : FuncId} {avs : List AV} {pvs : List PV} {r : PV} (he : EvX P f pvs r) (ha : pvArgs avs = some pvs) (hK : RW P Q nx bf n ops (k + 1) (s.upd d (.v r) []) (trU bf k [] [] tr) K) :
    CR P Q nx bf n nm (.v (.fn (.func f))) avs d ops k s tr K := ⟨_, .ext f avs pvs r rfl ha he, hK⟩

theorem loop_unroll' {a : SC} {K : List Fr} {N : Nat} {s : AS} (h : CW P Q a (.lp (LoopR P Q a K N) :: K) s) : LoopR P Q a K N s := by
  refine loop_unroll (aw_mono (fun e s' hs => ?_) h)
  cases e <;> exact hs

theorem loop_run {a : SC} {K : List Fr} {N : Nat} {s : AS} {α : Type} (m : α → Nat) (st : α → AS) (ok : α → Prop) (a0 : α) (hN : ∀ x, N ≤ (st x).nx) (h0 : ok a0) (hle : (st a0).Le s)
    (hr : ∀ x, ok x → ∀ R : AS → Prop, (∀ y, ok y → m y < m x → ∀ s', (st y).Le s' → R s') → CW P Q a (.lp R :: K) (st x)) : LoopR P Q a K N s := by
  refine loop_down m st ok a0 hN h0 hle fun x hx => ?_
  refine aw_mono (fun e s' hs => ?_) (hr x hx (fun s' => ∃ y, ok y ∧ m y < m x ∧ (st y).Le s') fun y h1 h2 s' h3 => ⟨y, h1, h2, h3⟩)
  cases e <;> exact hs

/-- 'Le' off lists. -/
def LeT (t : List (Nat × AV)) (n : Nat) : List (Nat × AV) → Prop
  | [] => True
  | (k, v) :: r => tget t k = v ∧ v.bd n = true ∧ LeT t n r
def LeH (h : List (Nat × AObj)) (n : Nat) : List (Nat × AObj) → Prop
  | [] => True
  | (k, v) :: r => hget h k = some v ∧ k < n ∧ (∀ c ∈ v.cells, c.bd n = true) ∧ LeH h n r
theorem AS.Le.of {t t' : List (Nat × AV)} {h h' : List (Nat × AObj)} {n n' : Nat} (hn : n ≤ n') (ht : LeT t' n t) (hh : LeH h' n h) : (AS.mk t h n).Le ⟨t', h', n'⟩ := by
  have h1 : ∀ (t : List (Nat × AV)), LeT t' n t → ∀ p ∈ t, tget t' p.1 = p.2 ∧ p.2.bd n = true := by
    intro t
    induction t with
    | nil => intro _ p hp; cases hp
    | cons q t ih =>
      obtain ⟨k, v⟩ := q
      intro hq p hp
      rcases List.mem_cons.1 hp with rfl | hp
      · exact ⟨hq.1, hq.2.1⟩
      · exact ih hq.2.2 p hp
  have h2 : ∀ (h : List (Nat × AObj)), LeH h' n h → ∀ p ∈ h, hget h' p.1 = some p.2 ∧ p.1 < n ∧ ∀ c ∈ p.2.cells, c.bd n = true := by
    intro h
    induction h with
    | nil => intro _ p hp; cases hp
    | cons q h ih =>
      obtain ⟨k, v⟩ := q
      intro hq p hp
      rcases List.mem_cons.1 hp with rfl | hp
      · exact ⟨hq.1, hq.2.1, hq.2.2.1⟩
      · exact ih hq.2.2.2 p hp
  exact ⟨fun p hp => (h1 t ht p hp).1, fun p hp => (h2 h hh p hp).1, hn, fun p hp => (h1 t ht p hp).2, fun p hp => (h2 h hh p hp).2⟩

end

theorem allM_nil {α : Type} (p : α → Prop) : (∀ x, x ∈ ([] : List α) → p x) = True := by simp
theorem allM_cons {α : Type} (a : α) (l : List α) (p : α → Prop) : (∀ x, x ∈ a :: l → p x) = (p a ∧ ∀ x, x ∈ l → p x) := by simp
theorem byte_i (k : IntKind) (n : Int) : PV.byte (.i k n) = UInt8.ofNat n.toNat := rfl
theorem isByte_i (n : Int) : PV.isByte (.i .u8 n) = True := rfl
theorem abyte_v (x : PV) : AV.byte (.v x) = x.byte := rfl
theorem aisByte_v (x : PV) : AV.isByte (.v x) = x.isByte := rfl
theorem ofNat_byte (c : UInt8) : UInt8.ofNat c.toNat = c := by simp
/-- The cells of bytes. -/
def bcells (l : Bytes) : List AV := l.map fun c => .v (u8 c)
theorem bfold (l : Bytes) : List.map (fun c : UInt8 => AV.v (PV.i IntKind.u8 (c.toNat : Int))) l = bcells l := rfl
theorem bcells_len (l : Bytes) : (bcells l).length = l.length := by simp [bcells]
theorem bcells_take (l : Bytes) : List.take l.length (bcells l) = bcells l := List.take_of_length_le (by simp [bcells])
theorem bcells_app (l m : Bytes) : bcells l ++ bcells m = bcells (l ++ m) := by simp [bcells]
theorem bcells_one (l : Bytes) : (∀ y, y ∈ bcells l → y.one = true) = True := by
  simp only [eq_iff_iff, iff_true]; intro y hy
  obtain ⟨c, -, rfl⟩ := List.mem_map.1 hy; rfl
theorem bcells_bd (l : Bytes) (n : Nat) : (∀ y, y ∈ bcells l → y.bd n = true) = True := by
  simp only [eq_iff_iff, iff_true]; intro y hy
  obtain ⟨c, -, rfl⟩ := List.mem_map.1 hy; rfl
theorem bcells_byte (l : Bytes) : (bcells l).map AV.byte = l := by
  induction l with
  | nil => rfl
  | cons c l ih => simp_all [bcells, AV.byte, PV.byte, u8]
theorem bcells_u8 (l : Bytes) : (∀ y, y ∈ bcells l → y = .v (u8 y.byte)) = True := by
  simp only [eq_iff_iff, iff_true]; intro y hy
  obtain ⟨c, -, rfl⟩ := List.mem_map.1 hy; simp [AV.byte, PV.byte, u8]
theorem renL_bcells (f : Nat → Option Nat) (l : Bytes) : AV.ren.renL f (bcells l) = some (bcells l) := by
  induction l with
  | nil => rfl
  | cons c l ih =>
    have : AV.ren.renL f (AV.v (u8 c) :: bcells l) = some (AV.v (u8 c) :: bcells l) := by simp [AV.ren.renL, AV.ren, ih]
    exact this
theorem mapO_outC_bcells (k : Nat) (j : Option Nat) (s : AS) (l : Bytes) : mapO (outC k j s) (bcells l) = some (bcells l) := by
  induction l with
  | nil => rfl
  | cons c l ih =>
    have : mapO (outC k j s) (AV.v (u8 c) :: bcells l) = some (AV.v (u8 c) :: bcells l) := by simp [mapO, outC, viewC, view, ih]
    exact this
theorem cast0 : ((0 : Nat) : Int) = 0 := rfl
theorem cast1 : ((1 : Nat) : Int) = 1 := rfl
theorem take_len_map {α β : Type} (l : List α) (f : α → β) : List.take l.length (l.map f) = l.map f := by rw [← List.length_map (f := f), List.take_length]

/-- The cells of elements. -/
def cellsOf (l : List PV) : List AV := (l.flatMap PV.cells).map .v
theorem bd_cellsOf (l : List PV) (n : Nat) : (∀ c, c ∈ cellsOf l → c.bd n = true) = True := by
  simp only [eq_iff_iff, iff_true]
  intro c hc
  simp only [cellsOf, List.mem_map] at hc
  obtain ⟨y, -, rfl⟩ := hc; rfl
theorem mapO_view_v (hf : Nat → Option AObj) (f : Nat) (l : List PV) : mapO (view hf (f + 1)) (l.map .v) = some l := by
  induction l with
  | nil => rfl
  | cons x l ih => simp [mapO, view, ih]
theorem mapO_view_cells (hf : Nat → Option AObj) (f : Nat) (l : List PV) : mapO (view hf (f + 1)) (cellsOf l) = some (l.flatMap PV.cells) := mapO_view_v hf f _

theorem flatMap_viewN_cells (hf : Nat → Option AObj) (f : Nat) (l : List PV) : (cellsOf l).flatMap (viewN hf (f + 1)) = [] := by
  simp only [cellsOf]
  induction l.flatMap PV.cells with
  | nil => rfl
  | cons x l ih => simp [viewN, ih]

/-! ## Cells, by constructors -/
theorem pvc_agg (l : List PV) : PV.cells (.agg l) = l := rfl
theorem pvc_b (x : Bool) : PV.cells (.b x) = [.b x] := rfl
theorem avc_vb (x : Bool) : AV.cells (.v (.b x)) = [.v (.b x)] := rfl
theorem pvo_b (x : Bool) : PV.one (.b x) = true := rfl
theorem avk_vb (x : Bool) : AV.okc (.v (.b x)) = true := rfl
theorem pvc_i (k : IntKind) (n : Int) : PV.cells (.i k n) = [.i k n] := rfl
theorem avc_vi (k : IntKind) (n : Int) : AV.cells (.v (.i k n)) = [.v (.i k n)] := rfl
theorem pvo_i (k : IntKind) (n : Int) : PV.one (.i k n) = true := rfl
theorem avk_vi (k : IntKind) (n : Int) : AV.okc (.v (.i k n)) = true := rfl
theorem pvc_s (x : Bytes) : PV.cells (.s x) = [.s x] := rfl
theorem avc_vs (x : Bytes) : AV.cells (.v (.s x)) = [.v (.s x)] := rfl
theorem pvo_s (x : Bytes) : PV.one (.s x) = true := rfl
theorem avk_vs (x : Bytes) : AV.okc (.v (.s x)) = true := rfl
theorem pvc_tup (l : List PV) : PV.cells (.tup l) = [.tup l] := rfl
theorem avc_vtup (l : List PV) : AV.cells (.v (.tup l)) = [.v (.tup l)] := rfl
theorem pvo_tup (l : List PV) : PV.one (.tup l) = false := rfl
theorem avk_vtup (l : List PV) : AV.okc (.v (.tup l)) = false := rfl
theorem pvc_sl (l : List PV) : PV.cells (.sl l) = [.sl l] := rfl
theorem avc_vsl (l : List PV) : AV.cells (.v (.sl l)) = [.v (.sl l)] := rfl
theorem pvo_sl (l : List PV) : PV.one (.sl l) = true := rfl
theorem avk_vsl (l : List PV) : AV.okc (.v (.sl l)) = true := rfl
theorem pvc_fn (f : Fn) : PV.cells (.fn f) = [.fn f] := rfl
theorem avc_vfn (f : Fn) : AV.cells (.v (.fn f)) = [.v (.fn f)] := rfl
theorem pvo_fn (f : Fn) : PV.one (.fn f) = true := rfl
theorem avk_vfn (f : Fn) : AV.okc (.v (.fn f)) = true := rfl
theorem pvc_fn0 : PV.cells (.fn0) = [.fn0] := rfl
theorem avc_vfn0 : AV.cells (.v (.fn0)) = [.v (.fn0)] := rfl
theorem pvo_fn0 : PV.one (.fn0) = true := rfl
theorem avk_vfn0 : AV.okc (.v (.fn0)) = true := rfl
theorem pvc_p0 : PV.cells (.p0) = [.p0] := rfl
theorem avc_vp0 : AV.cells (.v (.p0)) = [.v (.p0)] := rfl
theorem pvo_p0 : PV.one (.p0) = true := rfl
theorem avk_vp0 : AV.okc (.v (.p0)) = true := rfl
theorem pvc_if0 : PV.cells (.if0) = [.if0] := rfl
theorem avc_vif0 : AV.cells (.v (.if0)) = [.v (.if0)] := rfl
theorem pvo_if0 : PV.one (.if0) = true := rfl
theorem avk_vif0 : AV.okc (.v (.if0)) = true := rfl
theorem pvc_ifc (t : TypeId) (v : PV) : PV.cells (.ifc t v) = [.ifc t v] := rfl
theorem avc_vifc (t : TypeId) (v : PV) : AV.cells (.v (.ifc t v)) = [.v (.ifc t v)] := rfl
theorem pvo_ifc (t : TypeId) (v : PV) : PV.one (.ifc t v) = true := rfl
theorem avk_vifc (t : TypeId) (v : PV) : AV.okc (.v (.ifc t v)) = true := rfl
theorem pvo_agg (l : List PV) : PV.one (.agg l) = false := rfl
theorem avc_vagg (l : List PV) : AV.cells (.v (.agg l)) = l.map .v := rfl
theorem avk_vagg (l : List PV) : AV.okc (.v (.agg l)) = true := rfl
theorem avc_p (n v o : Nat) : AV.cells (.p n v o) = [.p n v o] := rfl
theorem avk_p (n v o : Nat) : AV.okc (.p n v o) = true := rfl
theorem avo_p (n v o : Nat) : AV.one (.p n v o) = true := rfl
theorem avc_pp (x : PV) (o : Nat) : AV.cells (.pp x o) = [.pp x o] := rfl
theorem avk_pp (x : PV) (o : Nat) : AV.okc (.pp x o) = true := rfl
theorem avo_pp (x : PV) (o : Nat) : AV.one (.pp x o) = true := rfl
theorem avc_rs (n v o l z : Nat) : AV.cells (.rs n v o l z) = [.rs n v o l z] := rfl
theorem avk_rs (n v o l z : Nat) : AV.okc (.rs n v o l z) = true := rfl
theorem avo_rs (n v o l z : Nat) : AV.one (.rs n v o l z) = true := rfl
theorem avc_fs (l : List PV) : AV.cells (.fs l) = [.fs l] := rfl
theorem avk_fs (l : List PV) : AV.okc (.fs l) = true := rfl
theorem avo_fs (l : List PV) : AV.one (.fs l) = true := rfl
theorem avc_sn : AV.cells (.sn) = [.sn] := rfl
theorem avk_sn : AV.okc (.sn) = true := rfl
theorem avo_sn : AV.one (.sn) = true := rfl
theorem avc_fn (f : Fn) (a c : List AV) : AV.cells (.fn f a c) = [.fn f a c] := rfl
theorem avk_fn (f : Fn) (a c : List AV) : AV.okc (.fn f a c) = true := rfl
theorem avo_fn (f : Fn) (a c : List AV) : AV.one (.fn f a c) = true := rfl
theorem pvc_pt (x : PV) (o : Nat) : PV.cells (.pt x o) = [.pt x o] := rfl
theorem avc_vpt (x : PV) (o : Nat) : AV.cells (.v (.pt x o)) = [.v (.pt x o)] := rfl
theorem pvo_pt (x : PV) (o : Nat) : PV.one (.pt x o) = true := rfl
theorem avk_vpt (x : PV) (o : Nat) : AV.okc (.v (.pt x o)) = true := rfl
theorem pvc_fc (f : FuncId) (a c : List PV) : PV.cells (.fc f a c) = [.fc f a c] := rfl
theorem avc_vfc (f : FuncId) (a c : List PV) : AV.cells (.v (.fc f a c)) = [.v (.fc f a c)] := rfl
theorem pvo_fc (f : FuncId) (a c : List PV) : PV.one (.fc f a c) = true := rfl
theorem avk_vfc (f : FuncId) (a c : List PV) : AV.okc (.v (.fc f a c)) = true := rfl
theorem avc_ub : AV.cells (.ub) = [.ub] := rfl
theorem avk_ub : AV.okc (.ub) = true := rfl
theorem avo_ub : AV.one (.ub) = true := rfl
theorem avc_u : AV.cells (.u) = [.u] := rfl
theorem avk_u : AV.okc (.u) = false := rfl
theorem avo_u : AV.one (.u) = false := rfl
theorem avc_tup (l : List AV) : AV.cells (.tup l) = [.tup l] := rfl
theorem avk_tup (l : List AV) : AV.okc (.tup l) = false := rfl
theorem avo_tup (l : List AV) : AV.one (.tup l) = false := rfl
theorem avc_agg (l : List AV) : AV.cells (.agg l) = l := rfl
theorem avk_agg (l : List AV) : AV.okc (.agg l) = l.all AV.one := rfl
theorem avo_agg (l : List AV) : AV.one (.agg l) = false := rfl
theorem avo_v (x : PV) : AV.one (.v x) = x.one := rfl
theorem avi_agg (l : List AV) : AV.isAgg (.agg l) = True := rfl
theorem avi_v (l : List PV) : AV.isAgg (.v (.agg l)) = True := rfl

attribute [irreducible] KW CW RW OW CR GR GB CC CV LoopR RgR

/-! ## The arguments of a call, as the state begins -/
def ent : Nat → List PV → List (Nat × AV)
  | _, [] => []
  | i, x :: l => (i, .v x) :: ent (i + 1) l
def entA : Nat → List AV → List (Nat × AV)
  | _, [] => []
  | i, x :: l => (i, x) :: entA (i + 1) l
def entO : Nat → List AObj → List (Nat × AObj)
  | _, [] => []
  | i, x :: l => (i, x) :: entO (i + 1) l
theorem ent_eq (l : List PV) : l.mapIdx (fun i x => (i, AV.v x)) = ent 0 l := by
  have : ∀ (l : List PV) (k : Nat), l.mapIdx (fun i x => (i + k, AV.v x)) = ent k l := by
    intro l
    induction l with
    | nil => intro k; rfl
    | cons x l ih =>
      intro k
      rw [List.mapIdx_cons, ent, ← ih (k + 1)]
      have e : (fun i (x : PV) => (i + 1 + k, AV.v x)) = fun i x => (i + (k + 1), AV.v x) := by funext i x; congr 1; omega
      rw [e]; simp
  exact this l 0
theorem entA_eq (l : List AV) : l.mapIdx (fun i x => (i, x)) = entA 0 l := by
  have : ∀ (l : List AV) (k : Nat), l.mapIdx (fun i x => (i + k, x)) = entA k l := by
    intro l
    induction l with
    | nil => intro k; rfl
    | cons x l ih =>
      intro k
      rw [List.mapIdx_cons, entA, ← ih (k + 1)]
      have e : (fun i (x : AV) => (i + 1 + k, x)) = fun i x => (i + (k + 1), x) := by funext i x; congr 1; omega
      rw [e]; simp
  exact this l 0
theorem entO_eq (l : List AObj) : l.mapIdx (fun i x => (i, x)) = entO 0 l := by
  have : ∀ (l : List AObj) (k : Nat), l.mapIdx (fun i x => (i + k, x)) = entO k l := by
    intro l
    induction l with
    | nil => intro k; rfl
    | cons x l ih =>
      intro k
      rw [List.mapIdx_cons, entO, ← ih (k + 1)]
      have e : (fun i (x : AObj) => (i + 1 + k, x)) = fun i x => (i + (k + 1), x) := by funext i x; congr 1; omega
      rw [e]; simp
  exact this l 0
/-- A CONTRACT BY A WALK. -/
theorem EvP.w {P : Program} [Tabs P] (hm : P.follows .mixedOrders = true) {f : FuncId} {fn : Func} {sc : SC} {rs : List SRes} (hent : Enters P f f) (hfn : P.funcs[f]? = some fn) (hb : fn.body.isSome = true) (hc : comp P fn.ntmps (fn.body.getD .skip) = some sc) (hr : compRes P fn.results.toList = some rs)
    {args : List PV} {r : PV} (hlen : Nat.ble args.length fn.ntmps = true) (h : CW P (RetQ rs r) sc [] ⟨ent 0 args, [], 1000⟩) : EvP P f args r :=
  EvP.mk' hm hent hfn hb hc hr (Nat.le_of_ble_eq_true hlen) (by rw [ent_eq]; exact CW.start h)
/-- A contract with effects by a walk. -/
theorem EvA.w {P : Program} [Tabs P] (hm : P.follows .mixedOrders = true) {f : FuncId} {fn : Func} {sc : SC} {rs : List SRes} (hent : Enters P f f) (hfn : P.funcs[f]? = some fn) (hb : fn.body.isSome = true) (hc : comp P fn.ntmps (fn.body.getD .skip) = some sc) (hr : compRes P fn.results.toList = some rs)
    {obs : List AObj} {args : List AV} {fs : List (Option (Option AObj))} {j : Option Nat} {nw : Option AObj} {v : AV} (hlen : Nat.ble args.length fn.ntmps = true) (h : CW P (RetA rs obs fs j nw v) sc [] ⟨entA 0 args, entO 0 obs, 1000⟩)
    {ns : List Nat} {nm : Nat} {obsA : List AObj} {avs : List AV} {v' : AV} {up : List (Nat × Option AObj)} (hns : ns.length ≤ 1000) (hnd : ns.Nodup) (hln : ns.length = obsA.length) (hob : mapO (AObj.ren (ixOf ns)) obsA = some obs) (hav : mapO (AV.ren (ixOf ns)) avs = some args)
    (hv : v.ren (bkOf ns nm) = some v') (hup : upsOf ns nm fs nw = some up) : EvA P f nm (ns.zip obsA) avs v' up :=
  EvA.mk' hm hent hfn hb hc hr (Nat.le_of_ble_eq_true hlen) (by rw [entA_eq, entO_eq]; exact h) hns hnd hln hob hav hv hup

attribute [go_sem] eq_self implies_true imp_false not_false_eq_true CW_skip CW_seq CW_blk CW_cond CW_loop CW_exit CW_ret CW_reg KW_nil KW_seqN KW_seqE KW_seqR KW_blkN KW_blkE KW_blkR KW_lpN KW_lpE KW_lpR KW_asgN KW_bk AV.off AV.off.offL KW_rgN KW_rgE KW_rgR setPs RW_nil RW_op XW RW_gd OW_some OW_none GR_b GB_TT GB_FT GB_TF GB_FF GR_undef CV_b CV_ub CC_T CC_F chkO_none chkO_some trU_none trU_some aop retO retP SX.ev tget tput tdel hget hput hdel hputs AS.upd AS.set ibin sbin aBin aUn aLd aFad aIxs aIxa aExt aNck lenOf bounds srcOf fillA AV.pvL AV.pv1 AV.pv0 mkFc mkAgg mapO pvc_agg pvc_b avc_vb pvo_b avk_vb pvc_i avc_vi pvo_i avk_vi pvc_s avc_vs pvo_s avk_vs pvc_tup avc_vtup pvo_tup avk_vtup pvc_sl avc_vsl pvo_sl avk_vsl pvc_fn avc_vfn pvo_fn avk_vfn pvc_fn0 avc_vfn0 pvo_fn0 avk_vfn0 pvc_p0 avc_vp0 pvo_p0 avk_vp0 pvc_if0 avc_vif0 pvo_if0 avk_vif0 pvc_ifc avc_vifc pvo_ifc avk_vifc pvo_agg avc_vagg avk_vagg avc_p avk_p avo_p avc_pp avk_pp avo_pp avc_rs avk_rs avo_rs avc_fs avk_fs avo_fs avc_sn avk_sn avo_sn avc_fn avk_fn avo_fn avc_u avk_u avo_u avc_tup avk_tup avo_tup avc_agg avk_agg avo_agg avo_v avi_agg avi_v u8 allM_nil allM_cons byte_i isByte_i abyte_v aisByte_v ofNat_byte ne_eq Int.cast_ofNat_Int cast0 cast1 List.flatten_cons List.flatten_nil List.flatMap_cons List.flatMap_nil IntKind.bits Nat.min_def List.take_length take_len_map List.length_map IntWalk.i64_in IntWalk.u8_in IntWalk.u64_in decide_true decide_false Int.toNat_natCast Int.toNat_zero Int.toNat_one ite_true ite_false List.length_cons List.length_nil List.map_cons List.map_nil List.all_cons List.all_nil Bool.and_true Bool.true_and Bool.and_self Option.map_some Option.map_none List.take_succ_cons List.take_zero List.drop_succ_cons List.drop_zero List.take_nil List.drop_nil List.getD_cons_zero List.getD_cons_succ List.nil_append List.cons_append List.append_nil Nat.zero_add Nat.add_zero Nat.le_refl true_and and_true and_self true_implies forall_const Nat.mul_one Nat.one_mul bfold bcells_len bcells_take bcells_app bcells_one List.isEmpty_cons List.isEmpty_nil Bool.or_true Bool.true_or Bool.false_or Bool.or_false Bool.and_false Bool.false_and RetQ resL resA view mkRes aPeq aCvp aSld aUst ent entA entO AV.nz PV.nz pvc_pt avc_vpt pvo_pt avk_vpt pvc_fc avc_vfc pvo_fc avk_vfc avc_ub avk_ub avo_ub CR_fc CR_fn

end Go.Dom
