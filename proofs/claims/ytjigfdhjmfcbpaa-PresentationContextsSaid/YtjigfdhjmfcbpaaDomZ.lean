/-
  CONTRACTS WITH EFFECTS OUT OF THE LOGIC: the theorem. Own work; generic over the program.
-/
import Derived.Test.YtjigfdhjmfcbpaaDomY
set_option linter.all false
namespace Go.Dom
open Go.RowKit

/-- The caller's names. -/
def bkOf (ns : List Nat) (nm : Nat) (i : Nat) : Option Nat :=
  match ns[i]? with
  | some n => some n
  | none => if i = ns.length then some nm else none

def outs (g : Nat → Option Nat) : List Nat → List (Option (Option AObj)) → Option (List (Nat × Option AObj))
  | [], [] => some []
  | _ :: ns, none :: fs => outs g ns fs
  | n :: ns, some none :: fs => match outs g ns fs with
    | some l => some ((n, none) :: l)
    | none => none
  | n :: ns, some (some o) :: fs => match o.ren g, outs g ns fs with
    | some o', some l => some ((n, some o') :: l)
    | _, _ => none
  | _, _ => none

def upsOf (ns : List Nat) (nm : Nat) (fs : List (Option (Option AObj))) (nw : Option AObj) : Option (List (Nat × Option AObj)) :=
  match outs (bkOf ns nm) ns fs, nw with
  | some l, none => some l
  | some l, some o => match o.ren (bkOf ns nm) with
    | some o' => some ((nm, some o') :: l)
    | none => none
  | none, _ => none

mutual
theorem ren_inv {f g : Nat → Option Nat} (h : ∀ n m, f n = some m → g m = some n) : ∀ (x y : AV), x.ren f = some y → y.ren g = some x
  | .v _, y, e => by simp only [AV.ren, Option.some.injEq] at e; subst e; rfl
  | .p n ver o, y, e => by
    simp only [AV.ren] at e
    split at e
    · rename_i m hm
      simp only [Option.some.injEq] at e; subst e
      simp only [AV.ren, h n m hm]
    · cases e
  | .pp _ _, y, e => by simp only [AV.ren, Option.some.injEq] at e; subst e; rfl
  | .rs n ver o len z, y, e => by
    simp only [AV.ren] at e
    split at e
    · rename_i m hm
      simp only [Option.some.injEq] at e; subst e
      simp only [AV.ren, h n m hm]
    · cases e
  | .fs _, y, e => by simp only [AV.ren, Option.some.injEq] at e; subst e; rfl
  | .sn, y, e => by simp only [AV.ren, Option.some.injEq] at e; subst e; rfl
  | .agg l, y, e => by
    simp only [AV.ren] at e
    split at e
    · rename_i l' hl
      simp only [Option.some.injEq] at e; subst e
      simp only [AV.ren, renL_inv h l l' hl]
    · cases e
  | .tup l, y, e => by
    simp only [AV.ren] at e
    split at e
    · rename_i l' hl
      simp only [Option.some.injEq] at e; subst e
      simp only [AV.ren, renL_inv h l l' hl]
    · cases e
  | .fn _ a c, y, e => by
    simp only [AV.ren] at e
    split at e
    · rename_i a' c' ha hc
      simp only [Option.some.injEq] at e; subst e
      simp only [AV.ren, renL_inv h a a' ha, renL_inv h c c' hc]
    · cases e
  | .u, y, e => by simp only [AV.ren, Option.some.injEq] at e; subst e; rfl
theorem renL_inv {f g : Nat → Option Nat} (h : ∀ n m, f n = some m → g m = some n) : ∀ (l l' : List AV), AV.ren.renL f l = some l' → AV.ren.renL g l' = some l
  | [], l', e => by simp only [AV.ren.renL, Option.some.injEq] at e; subst e; rfl
  | x :: r, l', e => by
    simp only [AV.ren.renL] at e
    split at e
    · rename_i y s hy hs
      simp only [Option.some.injEq] at e; subst e
      simp only [AV.ren.renL, ren_inv h x y hy, renL_inv h r s hs]
    · cases e
end

theorem AObj.ren_some {f : Nat → Option Nat} {o o' : AObj} (h : o.ren f = some o') : o'.ver = o.ver ∧ o'.gr = o.gr ∧ o'.el = o.el ∧ AV.ren.renL f o.cells = some o'.cells := by
  unfold AObj.ren at h
  split at h
  · rename_i cs hcs
    simp only [Option.some.injEq] at h; subst h
    exact ⟨rfl, rfl, rfl, hcs⟩
  · cases h

theorem AObj.ren_inv {f g : Nat → Option Nat} (hfg : ∀ n m, f n = some m → g m = some n) {o o' : AObj} (h : o.ren f = some o') : o'.ren g = some o := by
  obtain ⟨h1, h2, h3, h4⟩ := AObj.ren_some h
  unfold AObj.ren
  rw [renL_inv hfg _ _ h4]
  cases o; cases o'; simp_all

theorem outO_some {k : Nat} {j : Option Nat} {s : AS} {o o' : AObj} (h : outO k j s o = some o') : o'.ver = o.ver ∧ o'.gr = o.gr ∧ o'.el = o.el ∧ mapO (outC k j s) o.cells = some o'.cells := by
  unfold outO at h
  split at h
  · rename_i cs hcs
    simp only [Option.some.injEq] at h; subst h
    exact ⟨rfl, rfl, rfl, hcs⟩
  · cases h

theorem outs_look {g : Nat → Option Nat} : ∀ {ns : List Nat} {fs : List (Option (Option AObj))} {l : List (Nat × Option AObj)}, ns.Nodup → outs g ns fs = some l → ns.length = fs.length ∧ (∀ n, n ∉ ns → lookU l n = none) ∧
    ∀ (i n : Nat) (f : Option (Option AObj)), ns[i]? = some n → fs[i]? = some f → match f with
      | none => lookU l n = none
      | some none => lookU l n = some none
      | some (some o) => ∃ o', o.ren g = some o' ∧ lookU l n = some (some o') := by
  intro ns
  induction ns with
  | nil =>
    intro fs l _ h
    cases fs with
    | nil => simp only [outs, Option.some.injEq] at h; subst h; simp [lookU]
    | cons => simp [outs] at h
  | cons m ns ih =>
    intro fs l hnd h
    obtain ⟨hm, hnd'⟩ := List.nodup_cons.1 hnd
    have mem : ∀ (i n : Nat), ns[i]? = some n → n ≠ m := fun i n hi e => hm (e ▸ List.mem_of_getElem? hi)
    cases fs with
    | nil => simp [outs] at h
    | cons f fs =>
      cases f with
      | none =>
        simp only [outs] at h
        obtain ⟨h1, h2, h3⟩ := ih hnd' h
        refine ⟨by simp [h1], fun n hn => h2 n fun hm => hn (by simp [hm]), fun i n f hn hf => ?_⟩
        cases i with
        | zero => simp at hn hf; subst hn; subst hf; exact h2 _ hm
        | succ i => exact h3 i n f (by simpa using hn) (by simpa using hf)
      | some f =>
        cases f with
        | none =>
          simp only [outs] at h
          split at h
          · rename_i l' hl'
            simp only [Option.some.injEq] at h; subst h
            obtain ⟨h1, h2, h3⟩ := ih hnd' hl'
            refine ⟨by simp [h1], fun n hn => ?_, fun i n f hn hf => ?_⟩
            · have hne : n ≠ m := fun e => hn (by simp [e])
              simp only [lookU, h2 n fun h => hn (by simp [h]), hne, if_false]
            · cases i with
              | zero => simp at hn hf; subst hn; subst hf; simp [lookU, h2 _ hm]
              | succ i =>
                have hn' : ns[i]? = some n := by simpa using hn
                have hne := mem i n hn'
                have := h3 i n f hn' (by simpa using hf)
                match f, this with
                | none, this => simp only at this ⊢; simp only [lookU, this, hne, if_false]
                | some none, this => simp only at this ⊢; simp only [lookU, this]
                | some (some o), this => simp only at this ⊢; obtain ⟨o', e1, e2⟩ := this; exact ⟨o', e1, by simp only [lookU, e2]⟩
          · cases h
        | some o =>
          simp only [outs] at h
          split at h
          · rename_i o' l' ho' hl'
            simp only [Option.some.injEq] at h; subst h
            obtain ⟨h1, h2, h3⟩ := ih hnd' hl'
            refine ⟨by simp [h1], fun n hn => ?_, fun i n f hn hf => ?_⟩
            · have hne : n ≠ m := fun e => hn (by simp [e])
              simp only [lookU, h2 n fun h => hn (by simp [h]), hne, if_false]
            · cases i with
              | zero => simp at hn hf; subst hn; subst hf; exact ⟨o', ho', by simp [lookU, h2 _ hm]⟩
              | succ i =>
                have hn' : ns[i]? = some n := by simpa using hn
                have hne := mem i n hn'
                have := h3 i n f hn' (by simpa using hf)
                match f, this with
                | none, this => simp only at this ⊢; simp only [lookU, this, hne, if_false]
                | some none, this => simp only at this ⊢; simp only [lookU, this]
                | some (some o), this => simp only at this ⊢; obtain ⟨o', e1, e2⟩ := this; exact ⟨o', e1, by simp only [lookU, e2]⟩
          · cases h

theorem finH_get {k : Nat} {j : Option Nat} {s : AS} : ∀ {obs : List AObj} {fs : List (Option (Option AObj))} {m : Nat}, finH k j s m obs fs → obs.length = fs.length ∧ ∀ (i : Nat) (o : AObj) (f : Option (Option AObj)), obs[i]? = some o → fs[i]? = some f → match f with
      | none => ∃ p, hget s.h (m + i) = some p ∧ outO k j s p = some o
      | some none => hget s.h (m + i) = none
      | some (some o') => ∃ p, hget s.h (m + i) = some p ∧ outO k j s p = some o' := by
  intro obs
  induction obs with
  | nil =>
    intro fs m h
    cases fs with
    | nil => simp
    | cons f fs => simp [finH] at h
  | cons o obs ih =>
    intro fs m h
    cases fs with
    | nil => simp [finH] at h
    | cons f fs =>
      have fin : ∀ (tl : finH k j s (m + 1) obs fs) (hd : match f with
          | none => ∃ p, hget s.h m = some p ∧ outO k j s p = some o
          | some none => hget s.h m = none
          | some (some o') => ∃ p, hget s.h m = some p ∧ outO k j s p = some o'), (o :: obs).length = (f :: fs).length ∧ ∀ (i : Nat) (o' : AObj) (f' : Option (Option AObj)), (o :: obs)[i]? = some o' → (f :: fs)[i]? = some f' → match f' with
            | none => ∃ p, hget s.h (m + i) = some p ∧ outO k j s p = some o'
            | some none => hget s.h (m + i) = none
            | some (some o') => ∃ p, hget s.h (m + i) = some p ∧ outO k j s p = some o' := by
        intro tl hd
        obtain ⟨h1, h2⟩ := ih tl
        refine ⟨by simp [h1], fun i o' f' ho hf => ?_⟩
        cases i with
        | zero => simp at ho hf; subst ho; subst hf; exact hd
        | succ i =>
          have := h2 i o' f' (by simpa using ho) (by simpa using hf)
          rw [show m + (i + 1) = m + 1 + i by omega]; exact this
      cases f with
      | none =>
        obtain ⟨h1, h2⟩ := h
        refine fin h2 ?_
        split at h1
        · rename_i p hp; exact ⟨p, hp, h1⟩
        · exact h1.elim
      | some f =>
        cases f with
        | none => exact fin h.2 h.1
        | some o' =>
          obtain ⟨h1, h2⟩ := h
          refine fin h2 ?_
          split at h1
          · rename_i p hp; exact ⟨p, hp, h1⟩
          · exact h1.elim

section
variable {P : Program}

/-- The results, as the model reads them. -/
theorem res_okA {C : Cx} {s : AS} {wr : Nat → Prop} {a : Act} {w : World} (h : HR C (hget s.h) wr w) (htm : ∀ k, AR C (tget s.t k) (a.tmps.getD k undef)) : ∀ (vs : List ResultVar) (rs : List SRes), compRes P vs = some rs → ∀ (l : List AV) (p : Prop), resLA s rs = some (l, p) → p →
    ∃ us : List Value, (vs.mapM (fun
      | .tmp t => pure (a.tmps.getD t undef)
      | .cell q ty => do loadVar ty (← asAddr (a.tmps.getD q undef)) : ResultVar → Sem Value)).run P w = .ok us w ∧ RelL (AR C) l us := by
  intro vs
  induction vs with
  | nil =>
    intro rs hr l p hl hp
    simp only [compRes, mapO, Option.some.injEq] at hr; subst hr
    simp only [resLA, Option.some.injEq, Prod.mk.injEq] at hl
    obtain ⟨rfl, -⟩ := hl
    exact ⟨[], by simp, .nil⟩
  | cons v vs ih =>
    intro rs hr l p hl hp
    simp only [compRes, mapO] at hr
    split at hr
    · rename_i y ys hy hys
      simp only [Option.some.injEq] at hr; subst hr
      simp only [resLA] at hl
      split at hl
      · rename_i av q l' q' hav hl'
        simp only [Option.some.injEq, Prod.mk.injEq] at hl
        obtain ⟨rfl, rfl⟩ := hl
        obtain ⟨us, hus, hrel⟩ := ih ys hys l' q' hl' hp.2
        have hone : ∃ val, (match v with
            | .tmp t => pure (a.tmps.getD t undef)
            | .cell q ty => do loadVar ty (← asAddr (a.tmps.getD q undef)) : Sem Value).run P w = .ok val w ∧ AR C av val := by
          cases v with
          | tmp t =>
            simp only [Option.some.injEq] at hy; subst hy
            simp only [resA, Option.some.injEq, Prod.mk.injEq] at hav
            obtain ⟨rfl, -⟩ := hav
            exact ⟨_, rfl, htm t⟩
          | cell qq ty =>
            simp only at hy
            split at hy
            · rename_i ag zz hag hzz
              split at hy
              · rename_i hcond
                simp only [Option.some.injEq] at hy; subst hy
                simp only [resA] at hav
                have hq := htm qq
                split at hav
                · rename_i m ver o hm
                  rw [hm] at hq
                  split at hav
                  · rename_i ob hob
                    simp only [Option.some.injEq, Prod.mk.injEq] at hav
                    obtain ⟨rfl, rfl⟩ := hav
                    exact loadVar_ok h hag hzz (by simpa using hcond) hq hob hp.1.1 hp.1.2
                  · cases hav
                · cases hav
              · cases hy
            · cases hy
        obtain ⟨val, hval, har⟩ := hone
        refine ⟨val :: us, ?_, .cons har hrel⟩
        rw [List.mapM_cons]
        simp only [Sem.run_bind, hval, Result.andThen, hus, Sem.run_pure]
      · cases hl
    · cases hr

end
end Go.Dom
