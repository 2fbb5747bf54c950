/-
  CONTRACTS WITH EFFECTS OUT OF THE LOGIC: back into the caller's world. Own work; generic over the program.
-/
import Derived.Test.YtjigfdhjmfcbpaaDomZ
set_option linter.all false
namespace Go.Dom
open Go.RowKit

/-- The callee's context at its entry. -/
def Cx.enter (C : Cx) (ns : List Nat) : Cx :=
  { rd := C.rd, al := fun i => i < ns.length, cur := fun i => (ns[i]?).bind C.cur, mu := fun i => C.mu (ns.getD i 0), sz := fun i => C.sz (ns.getD i 0) }

open Classical in
/-- The caller's context behind the call: 'C' before it, 'D' the callee's at its end. -/
noncomputable def Cx.leave (C D : Cx) (ns : List Nat) (nm : Nat) (j : Option Nat) (hf : Nat → Option AObj) (w w' : World) : Cx :=
  { rd := fun b o => if b < w.heap.size then C.rd b o else if ∃ n ob, (n < ns.length ∨ j = some n) ∧ hf n = some ob ∧ D.mu n = b then none else w'.cell? ⟨b, o, none⟩,
    al := fun n => C.al n ∨ n = nm,
    cur := fun n => match ixOf ns n with
      | some i => D.cur i
      | none => if n = nm then j.bind D.cur else C.cur n,
    mu := fun n => match ixOf ns n with
      | some i => D.mu i
      | none => if n = nm then D.mu (j.getD 0) else C.mu n,
    sz := fun n => match ixOf ns n with
      | some i => D.sz i
      | none => if n = nm then D.sz (j.getD 0) else C.sz n }

/-- The callee's context at its end, under the names 0..k. -/
def Cx.mid (D : Cx) (k : Nat) (j : Option Nat) (rd : Rd) : Cx :=
  { rd := rd, al := fun n => n ≤ k, cur := fun n => if n < k then D.cur n else if n = k then j.bind D.cur else none,
    mu := fun n => if n < k then D.mu n else D.mu (j.getD 0), sz := fun n => if n < k then D.sz n else D.sz (j.getD 0) }

section
variable {C D : Cx} {hf hs : Nat → Option AObj} {wr : Nat → Prop} {w w' : World} {ns : List Nat} {nm : Nat} {j : Option Nat} {s : AS}

/-- The blocks that the callee may write. -/
def wrIn (C : Cx) (ns : List Nat) (w : World) (b : Nat) : Prop := w.heap.size ≤ b ∨ ∃ n ∈ ns, b = C.mu n

theorem HR.enter (h : HR C hf wr w) (hnd : ns.Nodup) {obsA obs : List AObj} (hln : ns.length = obsA.length) (hlive : ∀ (i n : Nat) (o : AObj), ns[i]? = some n → obsA[i]? = some o → hf n = some o) (hob : mapO (AObj.ren (ixOf ns)) obsA = some obs) :
    HR (C.enter ns) (hget (obs.mapIdx fun i x => (i, x))) (wrIn C ns w) w := by
  obtain ⟨m1, m2⟩ := mapO_some hob
  have get : ∀ (i : Nat) (o : AObj), hget (obs.mapIdx fun i x => (i, x)) i = some o → ∃ n oA, ns[i]? = some n ∧ obsA[i]? = some oA ∧ oA.ren (ixOf ns) = some o ∧ hf n = some oA := by
    intro i o hi
    rw [hget_mapIdx] at hi
    have hl := (List.getElem?_eq_some_iff.1 hi).1
    have e1 : ns[i]? = some (ns[i]'(by omega)) := List.getElem?_eq_getElem _
    have e2 : obsA[i]? = some (obsA[i]'(by omega)) := List.getElem?_eq_getElem _
    exact ⟨_, _, e1, e2, m2 i _ _ e2 hi, hlive i _ _ e1 e2⟩
  have gd : ∀ {i n : Nat}, ns[i]? = some n → ns.getD i 0 = n := by
    intro i n hi; simp [List.getD_eq_getElem?_getD, hi]
  have har : ∀ {x y : AV} {v : Value}, AR C x v → x.ren (ixOf ns) = some y → AR (C.enter ns) y v := by
    intro x y v hx hy
    refine AR.ren (C := C) (D := C.enter ns) (fun n m hnm _ => ?_) (fun n m hnm d hd => ?_) (fun _ _ _ h => h) hx y hy
    · exact (List.getElem?_eq_some_iff.1 (ixOf_some hnm)).1
    · have hi := ixOf_some hnm
      simp only [Cx.enter, hi, Option.bind_some] at hd
      exact ⟨hd, by simp only [Cx.enter, gd hi], by simp only [Cx.enter, gd hi]⟩
  refine ⟨h.rdw, ?_, ?_, ?_, ?_, ?_, ?_, ?_⟩
  · intro i o hi
    obtain ⟨n, oA, h1, h2, h3, h4⟩ := get i o hi
    refine ⟨(List.getElem?_eq_some_iff.1 h1).1, ?_⟩
    simp only [Cx.enter, h1, Option.bind_some]
    rw [(h.live n oA h4).2, (AObj.ren_some h3).1]
  · intro i hi
    rw [hget_mapIdx] at hi
    have hl := List.getElem?_eq_none_iff.1 hi
    have : ns[i]? = none := List.getElem?_eq_none_iff.2 (by omega)
    simp [Cx.enter, this]
  · intro i o hi k
    obtain ⟨n, oA, h1, h2, h3, h4⟩ := get i o hi
    simp only [Cx.enter, gd h1]
    exact h.sep n oA h4 k
  · intro i i' o o' hi hi' hmu
    obtain ⟨n, oA, h1, h2, h3, h4⟩ := get i o hi
    obtain ⟨n', oA', h1', h2', h3', h4'⟩ := get i' o' hi'
    simp only [Cx.enter, gd h1, gd h1'] at hmu
    have := h.inj n n' oA oA' h4 h4' hmu
    subst this
    have e1 := ixOf_get hnd h1
    have e2 := ixOf_get hnd h1'
    rw [e1] at e2; injection e2
  · intro i o hi
    obtain ⟨n, oA, h1, h2, h3, h4⟩ := get i o hi
    simp only [Cx.enter, gd h1]
    exact .inr ⟨n, List.mem_of_getElem? h1, rfl⟩
  · intro i o hi
    obtain ⟨n, oA, h1, h2, h3, h4⟩ := get i o hi
    obtain ⟨cs, el, g1, g2, g3, g4, g5⟩ := h.obj n oA h4
    obtain ⟨r1, r2, r3, r4⟩ := AObj.ren_some h3
    obtain ⟨q1, q2⟩ := renL_some r4
    simp only [Cx.enter, gd h1]
    refine ⟨cs, el, g1, g2, by omega, fun hg => by rw [← q1]; exact g4 (r2 ▸ hg), fun k x v hx hv => ?_⟩
    have hk : k < oA.cells.length := by have := (List.getElem?_eq_some_iff.1 hx).1; omega
    have e : oA.cells[k]? = some oA.cells[k] := by simp [hk]
    exact har (g5 k _ v e hv) (q2 k _ x e hx)
  · intro i o hi t ht
    obtain ⟨n, oA, h1, h2, h3, h4⟩ := get i o hi
    simp only [Cx.enter, gd h1]
    exact h.typ n oA h4 t (by rw [← (AObj.ren_some h3).2.2.1]; exact ht)

/-- What the callee has left, for the caller's context. -/
structure Left (C D : Cx) (hf hs : Nat → Option AObj) (wr : Nat → Prop) (w w' : World) (ns : List Nat) (nm : Nat) (j : Option Nat) : Prop where
  hC : HR C hf wr w
  hD : HR D hs (wrIn C ns w) w'
  nd : ns.Nodup
  live : ∀ n ∈ ns, ∃ ob, hf n = some ob
  nm : ¬ C.al nm
  rd : ∀ b, b < w.heap.size → D.rd b = C.rd b
  wf : Wf (wrIn C ns w) w w'
  le : (C.enter ns).Le D
  st : ∀ n ob, hs n = some ob → (n < ns.length ∧ D.mu n = (C.enter ns).mu n) ∨ w.heap.size ≤ D.mu n
  jk : ∀ n, j = some n → ns.length ≤ n

theorem Left.nmns (L : Left C D hf hs wr w w' ns nm j) : ixOf ns nm = none := by
  refine ixOf_none fun hm => ?_
  obtain ⟨ob, hob⟩ := L.live nm hm
  exact L.nm (L.hC.live nm ob hob).1

theorem Left.leC (L : Left C D hf hs wr w w' ns nm j) : C.Le (C.leave D ns nm j hs w w') := by
  refine ⟨fun b o v hv => ?_, fun _ h => .inl h, fun n hn d hd => ?_⟩
  · have := cell_lt (L.hC.rdw _ _ _ hv)
    simp [Cx.leave, this, hv]
  · simp only [Cx.leave] at hd ⊢
    cases hi : ixOf ns n with
    | some i =>
      simp only [hi] at hd ⊢
      have h1 := ixOf_some hi
      have hlt := (List.getElem?_eq_some_iff.1 h1).1
      obtain ⟨c, e1, e2, e3⟩ := L.le.cur i hlt d hd
      simp only [Cx.enter, h1, Option.bind_some] at e1
      refine ⟨c, e1, e2, fun he => ?_⟩
      obtain ⟨e4, e5⟩ := e3 he
      have gd : ns.getD i 0 = n := by simp [List.getD_eq_getElem?_getD, h1]
      simp only [Cx.enter, gd] at e4 e5
      exact ⟨e4, e5⟩
    | none =>
      simp only [hi] at hd ⊢
      by_cases e : n = nm
      · subst e; exact absurd hn L.nm
      · simp only [e, if_false] at hd ⊢
        exact ⟨d, hd, Nat.le_refl _, fun _ => ⟨trivial, trivial⟩⟩

/-- Values through the middle into the caller's context. -/
theorem Left.back (L : Left C D hf hs wr w w' ns nm j) {x y : AV} {v : Value} (hx : AR (D.mid ns.length j (C.leave D ns nm j hs w w').rd) x v) (hy : x.ren (bkOf ns nm) = some y) : AR (C.leave D ns nm j hs w w') y v := by
  refine AR.ren (C := D.mid ns.length j (C.leave D ns nm j hs w w').rd) (D := C.leave D ns nm j hs w w') (fun n m hnm _ => ?_) (fun n m hnm d hd => ?_) (fun _ _ _ h => h) hx y hy
  · unfold bkOf at hnm
    split at hnm
    · rename_i n' hn'
      injection hnm with hnm; subst hnm
      obtain ⟨ob, hob⟩ := L.live _ (List.mem_of_getElem? hn')
      exact .inl (L.hC.live _ ob hob).1
    · split at hnm
      · injection hnm with hnm; exact .inr hnm.symm
      · cases hnm
  · unfold bkOf at hnm
    split at hnm
    · rename_i n' hn'
      injection hnm with hnm; subst hnm
      have hlt := (List.getElem?_eq_some_iff.1 hn').1
      have hi := ixOf_get L.nd hn'
      simp only [Cx.leave, hi] at hd ⊢
      simp only [Cx.mid, hlt, if_true]
      exact ⟨hd, trivial, trivial⟩
    · split at hnm
      · rename_i hk
        injection hnm with hnm; subst hnm
        subst hk
        simp only [Cx.leave, L.nmns, if_true] at hd ⊢
        simp only [Cx.mid, Nat.lt_irrefl, if_false, if_true]
        exact ⟨hd, trivial, trivial⟩
      · cases hnm

theorem Left.rdle (L : Left C D hf hs wr w w' ns nm j) : ∀ b o v, D.rd b o = some v → (C.leave D ns nm j hs w w').rd b o = some v := by
  intro b o v hv
  simp only [Cx.leave]
  by_cases hb : b < w.heap.size
  · rw [if_pos hb, ← L.rd b hb]; exact hv
  · rw [if_neg hb, if_neg, L.hD.rdw _ _ _ hv]
    rintro ⟨n, ob, -, h1, rfl⟩
    rw [L.hD.sep n ob h1 o] at hv; cases hv

/-- Raw values into the middle. -/
theorem Left.toMid (L : Left C D hf hs wr w w' ns nm j) {x y : AV} {v : Value} (hx : AR D x v) (hy : x.ren (foV ns.length j) = some y) : AR (D.mid ns.length j (C.leave D ns nm j hs w w').rd) y v := by
  refine AR.ren (C := D) (D := D.mid ns.length j (C.leave D ns nm j hs w w').rd) (fun n m hnm _ => ?_) (fun n m hnm d hd => ?_) L.rdle hx y hy
  · unfold foV at hnm
    split at hnm
    · injection hnm with hnm; subst hnm; simp only [Cx.mid]; omega
    · split at hnm
      · injection hnm with hnm; subst hnm; simp [Cx.mid]
      · cases hnm
  · unfold foV at hnm
    split at hnm
    · rename_i hlt
      injection hnm with hnm; subst hnm
      simp only [Cx.mid, hlt, if_true] at hd ⊢
      exact ⟨hd, trivial, trivial⟩
    · split at hnm
      · rename_i hj
        injection hnm with hnm; subst hnm
        simp only [Cx.mid, Nat.lt_irrefl, if_false, if_true, hj, Option.bind_some, Option.getD_some] at hd ⊢
        exact ⟨hd, trivial, trivial⟩
      · cases hnm

end
end Go.Dom
