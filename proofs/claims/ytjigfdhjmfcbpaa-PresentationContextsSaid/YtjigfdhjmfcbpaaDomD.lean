/-
  THE COMPILER, AND WHAT VALUES COME TO. Own work; generic over the program.
-/
import Derived.Test.YtjigfdhjmfcbpaaDomC
import Derived.Laws.CopyRow
import Derived.Laws.AppendOwn
import Derived.Laws.Slices
import Derived.Laws.Strings
import Derived.Laws.BytesArg
import Derived.Laws.BytesString
set_option linter.all false
namespace Go.Dom
open Go.RowKit

/-! ## Lists that stand to values place by place -/

def RelL {α : Type} (R : α → Value → Prop) (l : List α) (vs : List Value) : Prop :=
  l.length = vs.length ∧ ∀ (k : Nat) (x : α) (v : Value), l[k]? = some x → vs[k]? = some v → R x v

section
variable {α : Type} {R : α → Value → Prop}
theorem RelL.nil : RelL R [] [] := ⟨rfl, fun k x v h => by simp at h⟩
theorem RelL.cons {x : α} {v : Value} {l : List α} {vs : List Value} (h : R x v) (hl : RelL R l vs) : RelL R (x :: l) (v :: vs) := by
  refine ⟨by simp [hl.1], fun k y u hy hu => ?_⟩
  cases k with
  | zero => simp at hy hu; subst hy; subst hu; exact h
  | succ k => simp at hy hu; exact hl.2 k y u hy hu
theorem RelL.head {x : α} {v : Value} {l : List α} {vs : List Value} (h : RelL R (x :: l) (v :: vs)) : R x v := h.2 0 x v rfl rfl
theorem RelL.tail {x : α} {v : Value} {l : List α} {vs : List Value} (h : RelL R (x :: l) (v :: vs)) : RelL R l vs :=
  ⟨by simpa using h.1, fun k y u hy hu => h.2 (k + 1) y u (by simpa using hy) (by simpa using hu)⟩
theorem RelL.uncons {x : α} {l : List α} {vs : List Value} (h : RelL R (x :: l) vs) : ∃ v us, vs = v :: us ∧ R x v ∧ RelL R l us := by
  cases vs with
  | nil => have := h.1; simp at this
  | cons v us => exact ⟨v, us, rfl, h.head, h.tail⟩
theorem RelL.nil_inv {vs : List Value} (h : RelL R [] vs) : vs = [] := by
  have := h.1; exact List.eq_nil_of_length_eq_zero (by simpa using this.symm)
theorem RelL.append {l m : List α} {vs us : List Value} (h : RelL R l vs) (k : RelL R m us) : RelL R (l ++ m) (vs ++ us) := by
  induction l generalizing vs with
  | nil => rw [h.nil_inv]; exact k
  | cons x l ih => obtain ⟨v, ws, rfl, h1, h2⟩ := h.uncons; exact .cons h1 (ih h2)
theorem RelL.take {l : List α} {vs : List Value} (h : RelL R l vs) (n : Nat) : RelL R (l.take n) (vs.take n) := by
  induction l generalizing vs n with
  | nil => rw [h.nil_inv]; simpa using RelL.nil
  | cons x l ih =>
    obtain ⟨v, ws, rfl, h1, h2⟩ := h.uncons
    cases n with
    | zero => simpa using RelL.nil
    | succ n => exact .cons h1 (ih h2 n)
theorem RelL.drop {l : List α} {vs : List Value} (h : RelL R l vs) (n : Nat) : RelL R (l.drop n) (vs.drop n) := by
  induction l generalizing vs n with
  | nil => rw [h.nil_inv]; simpa using RelL.nil
  | cons x l ih =>
    obtain ⟨v, ws, rfl, h1, h2⟩ := h.uncons
    cases n with
    | zero => exact .cons h1 h2
    | succ n => exact ih h2 n
theorem RelL.get {l : List α} {vs : List Value} (h : RelL R l vs) {k : Nat} {x : α} (hx : l[k]? = some x) : ∃ v, vs[k]? = some v ∧ R x v := by
  have hk : k < l.length := (List.getElem?_eq_some_iff.1 hx).1
  have hk' : k < vs.length := by have := h.1; omega
  exact ⟨vs[k], by simp [hk'], h.2 k x _ hx (by simp [hk'])⟩
theorem RelL.imp {S : α → Value → Prop} (hi : ∀ x v, R x v → S x v) {l : List α} {vs : List Value} (h : RelL R l vs) : RelL S l vs :=
  ⟨h.1, fun k x v hx hv => hi _ _ (h.2 k x v hx hv)⟩
theorem RelL.mapL {β : Type} {S : β → Value → Prop} (f : α → β) {l : List α} {vs : List Value} (h : RelL R l vs) (hi : ∀ x v, R x v → S (f x) v) : RelL S (l.map f) vs := by
  induction l generalizing vs with
  | nil => rw [h.nil_inv]; exact .nil
  | cons x l ih => obtain ⟨v, ws, rfl, h1, h2⟩ := h.uncons; exact .cons (hi _ _ h1) (ih h2)
theorem RelL.flatten {ls : List (List α)} {vss : List (List Value)} (hl : ls.length = vss.length) (h : ∀ (k : Nat) l vs, ls[k]? = some l → vss[k]? = some vs → RelL R l vs) : RelL R ls.flatten vss.flatten := by
  induction ls generalizing vss with
  | nil => cases vss with | nil => exact .nil | cons _ _ => simp at hl
  | cons l ls ih =>
    cases vss with
    | nil => simp at hl
    | cons vs vss =>
      simp only [List.flatten_cons]
      exact (h 0 l vs rfl rfl).append (ih (by simpa using hl) fun k l vs h1 h2 => h (k + 1) l vs (by simpa using h1) (by simpa using h2))
end

/-! ## Inversions -/
section
variable {rd : Rd} {C : Cx}

theorem PR.oneCell {x : PV} {v : Value} (h : PR rd x v) (h1 : x.one = true) : v.oneCell' = true := by
  cases h <;> first | rfl | (simp [PV.one] at h1)
theorem AR.oneCell {x : AV} {v : Value} (h : AR C x v) (h1 : x.one = true) : v.oneCell' = true := by
  cases h with
  | v h => exact h.oneCell h1
  | p => rfl
  | rs => rfl
  | pp => rfl
  | fs => rfl
  | sn => rfl
  | agg => simp [AV.one] at h1
  | tup => simp [AV.one] at h1
  | fn => rfl
  | u => simp [AV.one] at h1

theorem PR.notAgg {x : PV} {v : Value} (h : PR rd x v) (h1 : x.one = true) : v.cells = #[v] := by
  cases h <;> first | rfl | (simp [PV.one] at h1)
theorem AR.notAgg {x : AV} {v : Value} (h : AR C x v) (h1 : x.one = true) : v.cells = #[v] := by
  have := h.oneCell h1
  cases v <;> first | rfl | (simp [Value.oneCell'] at this)

theorem AR.cells {x : AV} {v : Value} (h : AR C x v) (hk : x.okc = true) : ∃ vs : List Value, v.cells = vs.toArray ∧ RelL (AR C) x.cells vs ∧ ∀ u ∈ vs, u.oneCell' = true := by
  cases h with
  | v h =>
    rename_i y
    cases h with
    | agg l vs h1 hl h =>
      have hr : RelL (PR C.rd) l vs := ⟨hl, h⟩
      refine ⟨vs, rfl, hr.mapL _ fun x v hx => .v hx, fun u hu => ?_⟩
      obtain ⟨k, hk', rfl⟩ := List.getElem_of_mem hu
      have hkl : k < l.length := by omega
      exact (h k l[k] vs[k] (by simp [hkl]) (by simp [hk'])).oneCell (h1 _ (List.getElem_mem hkl))
    | tup l vs hl h => simp [AV.okc] at hk
    | b x => exact ⟨[.bool x], rfl, .cons (.v (.b x)) .nil, by simp [Value.oneCell']⟩
    | i k n => exact ⟨[.int k n], rfl, .cons (.v (.i k n)) .nil, by simp [Value.oneCell']⟩
    | s x => exact ⟨[.string ⟨x.toArray⟩], rfl, .cons (.v (.s x)) .nil, by simp [Value.oneCell']⟩
    | sl0 => exact ⟨[.slice none 0 0], rfl, .cons (.v .sl0) .nil, by simp [Value.oneCell']⟩
    | sle a cap => exact ⟨[_], rfl, .cons (.v (.sle a cap)) .nil, by simp [Value.oneCell']⟩
    | sl l z vs bk of cap hc hz h1 hl hr h => exact ⟨[_], rfl, .cons (.v (.sl l z vs bk of cap hc hz h1 hl hr h)) .nil, by simp [Value.oneCell']⟩
    | fn f => exact ⟨[_], rfl, .cons (.v (.fn f)) .nil, by simp [Value.oneCell']⟩
    | fn0 => exact ⟨[_], rfl, .cons (.v .fn0) .nil, by simp [Value.oneCell']⟩
    | p0 => exact ⟨[_], rfl, .cons (.v .p0) .nil, by simp [Value.oneCell']⟩
    | if0 => exact ⟨[_], rfl, .cons (.v .if0) .nil, by simp [Value.oneCell']⟩
    | ifc t x v h => exact ⟨[_], rfl, .cons (.v (.ifc t x v h)) .nil, by simp [Value.oneCell']⟩
  | agg l vs hl h =>
    refine ⟨vs, rfl, ⟨hl, h⟩, fun u hu => ?_⟩
    obtain ⟨k, hk', rfl⟩ := List.getElem_of_mem hu
    have hkl : k < l.length := by omega
    simp only [AV.okc, List.all_eq_true] at hk
    exact (h k l[k] vs[k] (by simp [hkl]) (by simp [hk'])).oneCell (hk _ (List.getElem_mem hkl))
  | tup => simp [AV.okc] at hk
  | u => simp [AV.okc] at hk
  | p n ver o b ha h => exact ⟨[_], rfl, .cons (.p n ver o b ha h) .nil, by simp [Value.oneCell']⟩
  | rs n ver o len z b o' cap ha hc ho h => exact ⟨[_], rfl, .cons (.rs n ver o len z b o' cap ha hc ho h) .nil, by simp [Value.oneCell']⟩
  | pp x o vs bk of h1 hl hr h => exact ⟨[_], rfl, .cons (.pp x o vs bk of h1 hl hr h) .nil, by simp [Value.oneCell']⟩
  | fs l a h => exact ⟨[_], rfl, .cons (.fs l a h) .nil, by simp [Value.oneCell']⟩
  | sn => exact ⟨[_], rfl, .cons .sn .nil, by simp [Value.oneCell']⟩
  | fn f a c va vc hla hlc ha hc => exact ⟨[_], rfl, .cons (.fn f a c va vc hla hlc ha hc) .nil, by simp [Value.oneCell']⟩

theorem mapO_some {α β : Type} {g : α → Option β} {l : List α} {ys : List β} (h : mapO g l = some ys) : l.length = ys.length ∧ ∀ (k : Nat) (x : α) (y : β), l[k]? = some x → ys[k]? = some y → g x = some y := by
  induction l generalizing ys with
  | nil => simp [mapO] at h; subst h; exact ⟨rfl, fun k x y h => by simp at h⟩
  | cons x l ih =>
    simp only [mapO] at h
    cases hx : g x with
    | none => simp [hx] at h
    | some y =>
      cases hl : mapO g l with
      | none => simp [hx, hl] at h
      | some zs =>
        simp [hx, hl] at h; subst h
        obtain ⟨h1, h2⟩ := ih hl
        refine ⟨by simp [h1], fun k u z hu hz => ?_⟩
        cases k with
        | zero => simp at hu hz; subst hu; subst hz; exact hx
        | succ k => simp at hu hz; exact h2 k u z hu hz

theorem AR.mkAgg {l : List AV} {vs : List Value} (h : RelL (AR C) l vs) : AR C (Dom.mkAgg l) (.agg vs.toArray) := by
  unfold Dom.mkAgg
  split
  · rename_i ys hys
    obtain ⟨h1, h2⟩ := mapO_some hys
    have hp : ∀ (k : Nat) (y : PV), ys[k]? = some y → ∃ x, l[k]? = some x ∧ x = .v y ∧ y.one = true := by
      intro k y hy
      have hk : k < l.length := by have := (List.getElem?_eq_some_iff.1 hy).1; omega
      have hx : l[k]? = some l[k] := by simp [hk]
      have := h2 k _ y hx hy
      refine ⟨l[k], hx, ?_⟩
      split at this
      · rename_i z hz
        split at this
        · simp at this; subst this; exact ⟨hz, by assumption⟩
        · cases this
      · cases this
    refine .v (.agg ys vs ?_ (by rw [← h1]; exact h.1) ?_)
    · intro y hy
      obtain ⟨k, hk, rfl⟩ := List.getElem_of_mem hy
      exact (hp k _ (by simp [hk])).choose_spec.2.2
    · intro k y v hy hv
      obtain ⟨x, hx, rfl, -⟩ := hp k y hy
      have := h.2 k _ v hx hv
      cases this with | v h => exact h
  · exact .agg l vs h.1 h.2

end
end Go.Dom
