/-
  REGIONS THAT DRAW THEIR ORDER: every order gives what the order of the text gives, where operations that are not ordered have nothing to do with one another. Own work; generic over the program.
-/
import Derived.Test.YtjigfdhjmfcbpaaDomR
set_option linter.all false
namespace Go.Dom
open Go.RowKit

def lookU : List (Nat × Option AObj) → Nat → Option (Option AObj)
  | [], _ => none
  | (m, x) :: r, n => match lookU r n with
    | some y => some y
    | none => if n = m then some x else none

theorem updF_look (u : List (Nat × Option AObj)) : ∀ (hf : Nat → Option AObj) (n : Nat), updF hf u n = (lookU u n).getD (hf n) := by
  induction u with
  | nil => intro hf n; rfl
  | cons p u ih =>
    obtain ⟨m, x⟩ := p
    intro hf n
    simp only [updF, ih, lookU]
    cases lookU u n with
    | some y => rfl
    | none => by_cases e : n = m <;> simp [e]

theorem lookU_mem {u : List (Nat × Option AObj)} {n : Nat} (h : lookU u n ≠ none) : n ∈ u.map (·.1) := by
  induction u with
  | nil => simp [lookU] at h
  | cons p u ih =>
    obtain ⟨m, x⟩ := p
    by_cases hl : lookU u n = none
    · simp only [lookU, hl] at h
      by_cases e : n = m
      · simp [e]
      · simp [e] at h
    · exact List.mem_cons_of_mem _ (ih hl)

theorem updF_other {u : List (Nat × Option AObj)} {hf : Nat → Option AObj} {n : Nat} (h : n ∉ u.map (·.1)) : updF hf u n = hf n := by
  rw [updF_look]
  cases hl : lookU u n with
  | none => rfl
  | some y => exact absurd (lookU_mem (by rw [hl]; simp)) h

theorem updF_comm {u v : List (Nat × Option AObj)} (hf : Nat → Option AObj) (h : ∀ n ∈ u.map (·.1), n ∉ v.map (·.1)) : updF (updF hf u) v = updF (updF hf v) u := by
  funext n
  rw [updF_look v, updF_look u, updF_look u, updF_look v]
  cases hu : lookU u n with
  | none => simp
  | some y =>
    have hm := lookU_mem (u := u) (n := n) (by rw [hu]; simp)
    cases hv : lookU v n with
    | none => simp
    | some z => exact absurd (lookU_mem (u := v) (n := n) (by rw [hv]; simp)) (h n hm)

theorem putF_comm (tf : Nat → AV) {d e : Option Nat} (x y : AV) (h : ∀ k, d = some k → e ≠ some k) : putF (putF tf d x) e y = putF (putF tf e y) d x := by
  cases d with
  | none => rfl
  | some d =>
    cases e with
    | none => rfl
    | some e =>
      have hne : d ≠ e := fun he => h d rfl (by rw [he])
      funext k
      simp only [putF]
      by_cases h1 : k = d <;> by_cases h2 : k = e
      · exact absurd (h1.symm.trans h2) hne
      · subst h1; simp [h2]
      · subst h2; simp [h1]
      · simp [h1, h2]

theorem putF_other {tf : Nat → AV} {d : Option Nat} {x : AV} {t : Nat} (h : d ≠ some t) : putF tf d x t = tf t := by
  cases d with
  | none => rfl
  | some d =>
    have : t ≠ d := fun e => h (by rw [e])
    simp [putF, this]

/-- The slots that an operation in its place looks at. -/
def SOp.looks (x : SOp) : List Nat := x.o.ts ++ (match x.g with | some (t, _) => [t] | none => [])

def apartT (x y : SOp) : Bool :=
  (match x.d with
   | some d => !(y.looks.contains d) && y.d != some d
   | none => true) &&
  (match y.d with
   | some d => !(x.looks.contains d)
   | none => true)

def apartN (r1 w1 r2 w2 : List Nat) : Bool := w1.all (fun n => !r2.contains n && !w2.contains n) && w2.all (fun n => !r1.contains n)

/-- What a step gives. -/
def Fires (P : Program) (nm : Nat) (so : SOp) (tf : Nat → AV) (hf : Nat → Option AObj) (v : AV) (up : List (Nat × Option AObj)) (rs : List Nat) : Prop :=
  (gdF so.g tf = some false ∧ v = .v (.tup []) ∧ up = [] ∧ rs = []) ∨
  (gdF so.g tf = some true ∧ ∃ ao, OpR P nm so.o tf hf ao ∧ v = ao.v ∧ up = ao.up ∧ rs = ao.rs)

section
variable {P : Program} {tf tf' : Nat → AV} {hf hf' : Nat → Option AObj}

theorem FStep.iff {nx k : Nat} {so : SOp} {rs ws : List Nat} : FStep P nx k so tf hf tf' hf' rs ws ↔ ∃ v up, Fires P (nx + k) so tf hf v up rs ∧ tf' = putF tf so.d v ∧ hf' = updF hf up ∧ ws = up.map (·.1) := by
  constructor
  · rintro (⟨h1, h2, h3, h4, h5⟩ | ⟨h1, ao, h2, h3, h4, h5, h6⟩)
    · exact ⟨_, [], .inl ⟨h1, rfl, rfl, h4⟩, h2, h3, h5⟩
    · exact ⟨ao.v, ao.up, .inr ⟨h1, ao, h2, rfl, rfl, h5⟩, h3, h4, h6⟩
  · rintro ⟨v, up, ⟨h1, rfl, rfl, h4⟩ | ⟨h1, ao, h2, rfl, rfl, h5⟩, h3, h6, h7⟩
    · exact .inl ⟨h1, h3, h6, h4, h7⟩
    · exact .inr ⟨h1, ao, h2, h3, h6, h5, h7⟩

theorem gd_congr {g : Option (Nat × Bool)} (h : ∀ p, g = some p → tf p.1 = tf' p.1) : gdF g tf = gdF g tf' := by
  cases g with
  | none => rfl
  | some p => obtain ⟨t, w⟩ := p; simp only [gdF, h _ rfl]

theorem Fires.congr {nm : Nat} {so : SOp} {v : AV} {up : List (Nat × Option AObj)} {rs : List Nat} (h : Fires P nm so tf hf v up rs) (ht : ∀ t ∈ so.looks, tf t = tf' t) (hr : ∀ n ∈ rs, hf' n = hf n) : Fires P nm so tf' hf' v up rs := by
  have hg : gdF so.g tf = gdF so.g tf' := gd_congr fun p hp => ht p.1 (by simp [SOp.looks, hp])
  have hts : ∀ t ∈ so.o.ts, tf t = tf' t := fun t h => ht t (by simp [SOp.looks, h])
  rcases h with ⟨h1, h2, h3, h4⟩ | ⟨h1, ao, h2, h3, h4, rfl⟩
  · exact .inl ⟨by rw [← hg]; exact h1, h2, h3, h4⟩
  · exact .inr ⟨by rw [← hg]; exact h1, ao, opR_congr hts hr h2, h3, h4, rfl⟩

theorem FStep.swap {nx i j : Nat} {x y : SOp} {tf1 tf2 : Nat → AV} {hf1 hf2 : Nat → Option AObj} {r1 w1 r2 w2 : List Nat} (hx : FStep P nx i x tf hf tf1 hf1 r1 w1) (hy : FStep P nx j y tf1 hf1 tf2 hf2 r2 w2)
    (ht : apartT x y = true) (hn : apartN r1 w1 r2 w2 = true) : ∃ tf1' hf1', FStep P nx j y tf hf tf1' hf1' r2 w2 ∧ FStep P nx i x tf1' hf1' tf2 hf2 r1 w1 := by
  obtain ⟨v1, u1, f1, rfl, rfl, rfl⟩ := FStep.iff.1 hx
  obtain ⟨v2, u2, f2, rfl, rfl, rfl⟩ := FStep.iff.1 hy
  simp only [apartT, Bool.and_eq_true] at ht
  obtain ⟨t1, t2⟩ := ht
  have a1 : ∀ d, x.d = some d → d ∉ y.looks ∧ y.d ≠ some d := by
    intro d hd; rw [hd] at t1; simp at t1; exact ⟨t1.1, t1.2⟩
  have a2 : ∀ d, y.d = some d → d ∉ x.looks := by
    intro d hd; rw [hd] at t2; simp at t2; exact t2
  simp only [apartN, Bool.and_eq_true, List.all_eq_true] at hn
  obtain ⟨n1, n2⟩ := hn
  have b1 : ∀ n ∈ u1.map (·.1), n ∉ r2 ∧ n ∉ u2.map (·.1) := by
    intro n hn; have := n1 n hn
    simp only [Bool.and_eq_true, Bool.not_eq_true', List.contains_eq_mem, decide_eq_false_iff_not] at this
    exact this
  have b2 : ∀ n ∈ u2.map (·.1), n ∉ r1 := by
    intro n hn; have := n2 n hn
    simp only [Bool.not_eq_true', List.contains_eq_mem, decide_eq_false_iff_not] at this
    exact this
  have f2' : Fires P (nx + j) y tf hf v2 u2 r2 := f2.congr (fun t ht => putF_other fun hd => (a1 t hd).1 ht) (fun n hn => (updF_other fun hm => (b1 n hm).1 hn).symm)
  have f1' : Fires P (nx + i) x (putF tf y.d v2) (updF hf u2) v1 u1 r1 := f1.congr (fun t ht => (putF_other fun hd => a2 t hd ht).symm) (fun n hn => updF_other fun hm => b2 n hm hn)
  refine ⟨putF tf y.d v2, updF hf u2, FStep.iff.2 ⟨v2, u2, f2', rfl, rfl, rfl⟩, FStep.iff.2 ⟨v1, u1, f1', ?_, ?_, rfl⟩⟩
  · rw [putF_comm]; intro k hk; exact (a1 k hk).2
  · rw [updF_comm]; intro n hn; exact (b1 n hn).2

/-- Steps in a row, with what they touch. -/
inductive FRun (P : Program) (nx : Nat) (sops : List SOp) : List Nat → (Nat → AV) → (Nat → Option AObj) → (Nat → AV) → (Nat → Option AObj) → List (List Nat × List Nat) → Prop where
  | nil (tf : Nat → AV) (hf : Nat → Option AObj) : FRun P nx sops [] tf hf tf hf []
  | cons {k : Nat} {R : List Nat} {so : SOp} {tf tf1 tf2 : Nat → AV} {hf hf1 hf2 : Nat → Option AObj} {rs ws : List Nat} {tr : List (List Nat × List Nat)}
      (hs : sops[k]? = some so) (h : FStep P nx k so tf hf tf1 hf1 rs ws) (r : FRun P nx sops R tf1 hf1 tf2 hf2 tr) : FRun P nx sops (k :: R) tf hf tf2 hf2 ((rs, ws) :: tr)

/-- Two steps may be exchanged, or the first stands before the second. -/
def may (bf : List Nat) (sops : List SOp) (i j : Nat) (t u : List Nat × List Nat) : Prop :=
  (bf.getD j 0).testBit i = true ∨ (apartN t.1 t.2 u.1 u.2 = true ∧ ∀ x y, sops[i]? = some x → sops[j]? = some y → apartT x y = true)

def IndL (bf : List Nat) (sops : List SOp) : List Nat → List (List Nat × List Nat) → Prop
  | i :: R, t :: tr => (∀ (p : Nat) (j : Nat) (u : List Nat × List Nat), R[p]? = some j → tr[p]? = some u → may bf sops i j t u) ∧ IndL bf sops R tr
  | _, _ => True

theorem FRun.front {nx : Nat} {sops : List SOp} {bf : List Nat} : ∀ {R : List Nat} {tf tf2 : Nat → AV} {hf hf2 : Nat → Option AObj} {tr : List (List Nat × List Nat)}, FRun P nx sops R tf hf tf2 hf2 tr → IndL bf sops R tr → R.Nodup →
    ∀ {i : Nat}, i ∈ R → (∀ a ∈ R, a ≠ i → (bf.getD i 0).testBit a = false) →
    ∃ so tf1 hf1 rs ws tr', sops[i]? = some so ∧ FStep P nx i so tf hf tf1 hf1 rs ws ∧ FRun P nx sops (R.erase i) tf1 hf1 tf2 hf2 tr' ∧ IndL bf sops (R.erase i) tr' ∧
      (∀ (a : Nat) (t : List Nat × List Nat), may bf sops a i t (rs, ws) → (∀ (p j : Nat) (u : List Nat × List Nat), R[p]? = some j → tr[p]? = some u → may bf sops a j t u) → ∀ (p j : Nat) (u : List Nat × List Nat), (R.erase i)[p]? = some j → tr'[p]? = some u → may bf sops a j t u) ∧
      (∃ p : Nat, R[p]? = some i ∧ tr[p]? = some (rs, ws)) := by
  intro R tf tf2 hf hf2 tr hrun
  induction hrun with
  | nil => intro _ _ i hi; simp at hi
  | cons hs h r ih =>
    rename_i k R so tf tf1 tf2 hf hf1 hf2 rs ws tr
    intro hind hnd i hi hbf
    by_cases e : k = i
    · subst e
      refine ⟨so, tf1, hf1, rs, ws, tr, hs, h, by simpa using r, by simpa using hind.2, ?_, ⟨0, rfl, rfl⟩⟩
      intro a t _ hm p j u hp hu
      rw [List.erase_cons_head] at hp
      exact hm (p + 1) j u (by simpa using hp) (by simpa using hu)
    · have hi' : i ∈ R := by rcases List.mem_cons.1 hi with rfl | h; exact absurd rfl e; exact h
      obtain ⟨hnk, hnd'⟩ := List.nodup_cons.1 hnd
      obtain ⟨so', tf1', hf1', rs', ws', tr', g1, g2, g3, g4, g5, p0, g6, g7⟩ := ih hind.2 hnd' hi' fun a ha hne => hbf a (List.mem_cons_of_mem _ ha) hne
      have hki : may bf sops k i (rs, ws) (rs', ws') := hind.1 p0 i _ g6 g7
      have hnb : (bf.getD i 0).testBit k = false := hbf k (by simp) e
      rcases hki with hki | ⟨hn, ht⟩
      · rw [hnb] at hki; cases hki
      · obtain ⟨tfa, hfa, s1, s2⟩ := FStep.swap h g2 (ht so so' hs g1) hn
        refine ⟨so', tfa, hfa, rs', ws', (rs, ws) :: tr', g1, s1, ?_, ?_, ?_, ⟨p0 + 1, by simpa using g6, by simpa using g7⟩⟩
        · rw [List.erase_cons_tail (by simpa using e)]
          exact .cons hs s2 g3
        · rw [List.erase_cons_tail (by simpa using e)]
          exact ⟨g5 k (rs, ws) (.inr ⟨hn, ht⟩) hind.1, g4⟩
        · intro a t hai hm p j u hp hu
          rw [List.erase_cons_tail (by simpa using e)] at hp
          cases p with
          | zero => exact hm 0 j u (by simpa using hp) (by simpa using hu)
          | succ p => exact g5 a t hai (fun p j u hp hu => hm (p + 1) j u (by simpa using hp) (by simpa using hu)) p j u (by simpa using hp) (by simpa using hu)

end
end Go.Dom
