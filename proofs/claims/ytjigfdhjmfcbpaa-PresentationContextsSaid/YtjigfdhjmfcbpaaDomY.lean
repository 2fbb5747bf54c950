/-
  CONTRACTS WITH EFFECTS OUT OF THE LOGIC: a function is walked with its objects under the names 0, 1, ..; the caller has its own names. Own work; generic over the program.
-/
import Derived.Test.YtjigfdhjmfcbpaaDomX
set_option linter.all false
namespace Go.Dom
open Go.RowKit

/-! ## Renaming -/

def AV.ren (f : Nat → Option Nat) : AV → Option AV
  | .v x => some (.v x)
  | .p n ver o => match f n with
    | some m => some (.p m ver o)
    | none => none
  | .pp x o => some (.pp x o)
  | .rs n ver o len z => match f n with
    | some m => some (.rs m ver o len z)
    | none => none
  | .fs l => some (.fs l)
  | .sn => some .sn
  | .agg l => match renL f l with
    | some l => some (.agg l)
    | none => none
  | .tup l => match renL f l with
    | some l => some (.tup l)
    | none => none
  | .fn g a c => match renL f a, renL f c with
    | some a, some c => some (.fn g a c)
    | _, _ => none
  | .u => some .u
where renL (f : Nat → Option Nat) : List AV → Option (List AV)
  | [] => some []
  | x :: r => match x.ren f, renL f r with
    | some y, some s => some (y :: s)
    | _, _ => none

theorem renL_some {f : Nat → Option Nat} : ∀ {l l' : List AV}, AV.ren.renL f l = some l' → l.length = l'.length ∧ ∀ (k : Nat) (x y : AV), l[k]? = some x → l'[k]? = some y → x.ren f = some y := by
  intro l
  induction l with
  | nil => intro l' h; simp only [AV.ren.renL, Option.some.injEq] at h; subst h; simp
  | cons x r ih =>
    intro l' h
    simp only [AV.ren.renL] at h
    split at h
    · rename_i y s hy hs
      simp only [Option.some.injEq] at h; subst h
      obtain ⟨h1, h2⟩ := ih hs
      refine ⟨by simp [h1], fun k a b ha hb => ?_⟩
      cases k with
      | zero => simp at ha hb; subst ha; subst hb; exact hy
      | succ k => exact h2 k a b (by simpa using ha) (by simpa using hb)
    · cases h

theorem AR.ren {C D : Cx} {f : Nat → Option Nat} (hal : ∀ n m, f n = some m → C.al n → D.al m) (hcur : ∀ n m, f n = some m → ∀ d, D.cur m = some d → C.cur n = some d ∧ D.mu m = C.mu n ∧ D.sz m = C.sz n)
    (hrd : ∀ b o v, C.rd b o = some v → D.rd b o = some v) {x : AV} {v : Value} (h : AR C x v) : ∀ y, x.ren f = some y → AR D y v := by
  have lst : ∀ (l l' : List AV) (vs : List Value), l.length = vs.length → (∀ (k : Nat) (x : AV) (v : Value), l[k]? = some x → vs[k]? = some v → ∀ y, x.ren f = some y → AR D y v) → AV.ren.renL f l = some l' →
      l'.length = vs.length ∧ ∀ (k : Nat) (x : AV) (v : Value), l'[k]? = some x → vs[k]? = some v → AR D x v := by
    intro l l' vs hl ih hr
    obtain ⟨h1, h2⟩ := renL_some hr
    refine ⟨by omega, fun k y v hy hv => ?_⟩
    have hk : k < l.length := by have := (List.getElem?_eq_some_iff.1 hy).1; omega
    exact ih k l[k] v (by simp [hk]) hv y (h2 k _ y (by simp [hk]) hy)
  induction h with
  | v h => intro y hy; simp only [AV.ren, Option.some.injEq] at hy; subst hy; exact .v (h.mono hrd)
  | p n ver o b ha h =>
    intro y hy
    simp only [AV.ren] at hy
    split at hy
    · rename_i m hm
      simp only [Option.some.injEq] at hy; subst hy
      refine .p m ver o b (hal n m hm ha) fun d hd => ?_
      obtain ⟨h1, h2, -⟩ := hcur n m hm d hd
      rw [h2]; exact h d h1
    · cases hy
  | pp x o vs bk of h1 hl hr h => intro y hy; simp only [AV.ren, Option.some.injEq] at hy; subst hy; exact .pp x o vs bk of h1 hl (fun k v hv => hrd _ _ _ (hr k v hv)) (fun k y v hy hv => (h k y v hy hv).mono hrd)
  | rs n ver o len z b o' cap ha hc ho h =>
    intro y hy
    simp only [AV.ren] at hy
    split at hy
    · rename_i m hm
      simp only [Option.some.injEq] at hy; subst hy
      refine .rs m ver o len z b o' cap (hal n m hm ha) hc ho fun d hd => ?_
      obtain ⟨h1, h2, h3⟩ := hcur n m hm d hd
      rw [h2, h3]; exact h d h1
    · cases hy
  | fs l a h => intro y hy; simp only [AV.ren, Option.some.injEq] at hy; subst hy; exact .fs l a (h.mono hrd)
  | sn => intro y hy; simp only [AV.ren, Option.some.injEq] at hy; subst hy; exact .sn
  | agg l vs hl _ ih =>
    intro y hy
    simp only [AV.ren] at hy
    split at hy
    · rename_i l' hl'
      simp only [Option.some.injEq] at hy; subst hy
      obtain ⟨h1, h2⟩ := lst l l' vs hl ih hl'
      exact .agg l' vs h1 h2
    · cases hy
  | tup l vs hl _ ih =>
    intro y hy
    simp only [AV.ren] at hy
    split at hy
    · rename_i l' hl'
      simp only [Option.some.injEq] at hy; subst hy
      obtain ⟨h1, h2⟩ := lst l l' vs hl ih hl'
      exact .tup l' vs h1 h2
    · cases hy
  | fn g a c va vc hla hlc _ _ iha ihc =>
    intro y hy
    simp only [AV.ren] at hy
    split at hy
    · rename_i a' c' ha' hc'
      simp only [Option.some.injEq] at hy; subst hy
      obtain ⟨h1, h2⟩ := lst a a' va hla iha ha'
      obtain ⟨h3, h4⟩ := lst c c' vc hlc ihc hc'
      exact .fn g a' c' va vc h1 h3 h2 h4
    · cases hy
  | u w => intro y hy; simp only [AV.ren, Option.some.injEq] at hy; subst hy; exact .u w

def AObj.ren (f : Nat → Option Nat) (o : AObj) : Option AObj :=
  match AV.ren.renL f o.cells with
  | some cs => some { o with cells := cs }
  | none => none

/-- The place of a name. -/
def ixOf : List Nat → Nat → Option Nat
  | [], _ => none
  | m :: r, n => if n = m then some 0 else match ixOf r n with
    | some i => some (i + 1)
    | none => none

theorem ixOf_some : ∀ {ns : List Nat} {n i : Nat}, ixOf ns n = some i → ns[i]? = some n := by
  intro ns
  induction ns with
  | nil => intro n i h; simp [ixOf] at h
  | cons m r ih =>
    intro n i h
    simp only [ixOf] at h
    by_cases e : n = m
    · rw [if_pos e] at h; injection h with h; subst h; simp [e]
    · rw [if_neg e] at h
      split at h
      · rename_i j hj; injection h with h; subst h; simpa using ih hj
      · cases h

theorem ixOf_get : ∀ {ns : List Nat} {n i : Nat}, ns.Nodup → ns[i]? = some n → ixOf ns n = some i := by
  intro ns
  induction ns with
  | nil => intro n i _ h; simp at h
  | cons m r ih =>
    intro n i hnd h
    obtain ⟨h1, h2⟩ := List.nodup_cons.1 hnd
    cases i with
    | zero => simp at h; subst h; simp [ixOf]
    | succ i =>
      simp at h
      have hne : n ≠ m := fun e => h1 (e ▸ List.mem_of_getElem? h)
      simp [ixOf, hne, ih h2 h]

theorem ixOf_none {ns : List Nat} {n : Nat} (h : n ∉ ns) : ixOf ns n = none := by
  cases hx : ixOf ns n with
  | none => rfl
  | some i => exact absurd (List.mem_of_getElem? (ixOf_some hx)) h

theorem ixOf_mem {ns : List Nat} {n : Nat} (hnd : ns.Nodup) (h : ixOf ns n = none) : n ∉ ns := by
  intro hm
  obtain ⟨i, hi, e⟩ := List.getElem_of_mem hm
  have := ixOf_get (i := i) (n := n) hnd (by rw [List.getElem?_eq_getElem hi, e])
  rw [h] at this; cases this

theorem hget_mapIdx (l : List AObj) (n : Nat) : hget (l.mapIdx fun i x => (i, x)) n = l[n]? := by
  have key : ∀ (l : List AObj) (m k : Nat), hget (l.mapIdx (fun i x => (i + m, x))) (k + m) = l[k]? := by
    intro l
    induction l with
    | nil => intro m k; rfl
    | cons x l ih =>
      intro m k
      rw [List.mapIdx_cons]
      simp only [hget]
      cases k with
      | zero => simp
      | succ k =>
        rw [if_neg (by omega)]
        have := ih (m + 1) k
        rw [show k + 1 + m = k + (m + 1) by omega]
        have e : (l.mapIdx fun i x => (i + 1 + m, x)) = l.mapIdx fun i x => (i + (m + 1), x) := by
          congr 1; funext i x; congr 1; omega
        rw [e, this]; simp
  simpa using key l 0 n

theorem tget_mapIdx (l : List AV) (n : Nat) : tget (l.mapIdx fun i x => (i, x)) n = l.getD n .u := by
  have key : ∀ (l : List AV) (m k : Nat), tget (l.mapIdx (fun i x => (i + m, x))) (k + m) = l.getD k .u := by
    intro l
    induction l with
    | nil => intro m k; rfl
    | cons x l ih =>
      intro m k
      rw [List.mapIdx_cons]
      simp only [tget]
      cases k with
      | zero => simp
      | succ k =>
        rw [if_neg (by omega)]
        have := ih (m + 1) k
        rw [show k + 1 + m = k + (m + 1) by omega]
        have e : (l.mapIdx fun i x => (i + 1 + m, x)) = l.mapIdx fun i x => (i + (m + 1), x) := by
          congr 1; funext i x; congr 1; omega
        rw [e, this]; simp
  simpa using key l 0 n

/-! ## What is left behind -/

/-- The objects that may be looked at as pure data: those that are not kept. -/
def hfV (k : Nat) (j : Option Nat) (s : AS) (n : Nat) : Option AObj := if n < k ∨ j = some n then none else hget s.h n

/-- The new name is k. -/
def foV (k : Nat) (j : Option Nat) (n : Nat) : Option Nat := if n < k then some n else if j = some n then some k else none

/-- A nil slice stays one. -/
def viewC (hf : Nat → Option AObj) (x : AV) : Option PV :=
  match x with
  | .sn => none
  | x => view hf 9 x
theorem viewC_some {hf : Nat → Option AObj} {x : AV} {y : PV} (h : viewC hf x = some y) : view hf 9 x = some y := by
  unfold viewC at h
  split at h
  · cases h
  · exact h

def outC (k : Nat) (j : Option Nat) (s : AS) (x : AV) : Option AV :=
  match viewC (hfV k j s) x with
  | some y => some (.v y)
  | none => x.ren (foV k j)

def outV (k : Nat) (j : Option Nat) (s : AS) (x : AV) : Option AV :=
  match view (hfV k j s) 9 x with
  | some y => some (.v y)
  | none => match x with
    | .agg l => match mapO (outC k j s) l with
      | some l => some (.agg l)
      | none => none
    | x => x.ren (foV k j)

def outO (k : Nat) (j : Option Nat) (s : AS) (o : AObj) : Option AObj :=
  match mapO (outC k j s) o.cells with
  | some cs => some { o with cells := cs }
  | none => none

/-- The results, as they are. -/
def resLA (s : AS) : List SRes → Option (List AV × Prop)
  | [] => some ([], True)
  | r :: rs => match resA s r, resLA s rs with
    | some (v, p), some (l, q) => some (v :: l, p ∧ q)
    | _, _ => none

def mkResA : List AV → AV
  | [y] => y
  | l => .tup l

/-- The objects at the end; 'none': as it was. -/
def finH (k : Nat) (j : Option Nat) (s : AS) : Nat → List AObj → List (Option (Option AObj)) → Prop
  | _, [], [] => True
  | i, o :: os, none :: fs => (match hget s.h i with
    | some p => outO k j s p = some o
    | none => False) ∧ finH k j s (i + 1) os fs
  | i, _ :: os, some none :: fs => hget s.h i = none ∧ finH k j s (i + 1) os fs
  | i, _ :: os, some (some o') :: fs => (match hget s.h i with
    | some p => outO k j s p = some o'
    | none => False) ∧ finH k j s (i + 1) os fs
  | _, _, _ => False

def finN (k : Nat) (j : Option Nat) (s : AS) (nw : Option AObj) : Prop :=
  match j, nw with
  | none, none => True
  | some n, some o' => k ≤ n ∧ match hget s.h n with
    | some p => outO k j s p = some o'
    | none => False
  | _, _ => False

/-- The code has come to its end so. -/
def RetA (rs : List SRes) (obs : List AObj) (fs : List (Option (Option AObj))) (j : Option Nat) (nw : Option AObj) (v : AV) (x : AX) (s : AS) : Prop :=
  (match x with
   | .exit _ => False
   | _ => True) ∧ (match resLA s rs with
    | some (l, p) => p ∧ (match mapO (outV obs.length j s) l with
      | some l => mkResA l = v
      | none => False)
    | none => False) ∧ finH obs.length j s 0 obs fs ∧ finN obs.length j s nw

end Go.Dom
