/-
  CONTRACTS WITH EFFECTS OUT OF THE LOGIC: the theorem. Own work; generic over the program.
-/
import Derived.Test.YtjigfdhjmfcbpaaDomZ3
set_option linter.all false
namespace Go.Dom
open Go.RowKit

section
variable {C D : Cx} {hf : Nat → Option AObj} {wr : Nat → Prop} {w w' : World} {ns : List Nat} {nm : Nat} {j : Option Nat} {s : AS}

theorem Left.viewed (L : Left C D hf (hget s.h) wr w w' ns nm j) {x : AV} {v : Value} {y : PV} (hx : AR D x v) (hy : view (hfV ns.length j s) 9 x = some y) : PR (C.leave D ns nm j (hget s.h) w w').rd y v := by
  let D' : Cx := { D with cur := fun n => if n < ns.length ∨ j = some n then none else D.cur n }
  have hle : D.Le D' := by
    refine ⟨fun _ _ _ h => h, fun _ h => h, fun n _ d hd => ?_⟩
    simp only [D'] at hd
    split at hd
    · cases hd
    · exact ⟨d, hd, Nat.le_refl _, fun _ => ⟨rfl, rfl⟩⟩
  have hsub : ∀ n ob, hfV ns.length j s n = some ob → ¬ (n < ns.length ∨ j = some n) ∧ hget s.h n = some ob := by
    intro n ob hn
    unfold hfV at hn
    split at hn
    · cases hn
    · exact ⟨by assumption, hn⟩
  have hH : HR D' (hfV ns.length j s) (wrIn C ns w) w' := by
    refine ⟨L.hD.rdw, ?_, ?_, ?_, ?_, ?_, ?_, ?_⟩
    · intro n ob hn
      obtain ⟨h1, h2⟩ := hsub n ob hn
      exact ⟨(L.hD.live n ob h2).1, by simp only [D', h1, if_false]; exact (L.hD.live n ob h2).2⟩
    · intro n hn
      unfold hfV at hn
      simp only [D']
      split at hn
      · rename_i h; rw [if_pos h]
      · rename_i h; rw [if_neg h]; exact L.hD.dead n hn
    · exact fun n ob hn => L.hD.sep n ob (hsub n ob hn).2
    · exact fun n m ob oc hn hm => L.hD.inj n m ob oc (hsub n ob hn).2 (hsub m oc hm).2
    · exact fun n ob hn => L.hD.wr n ob (hsub n ob hn).2
    · intro n ob hn
      obtain ⟨cs, el, h1, h2, h3, h4, h5⟩ := L.hD.obj n ob (hsub n ob hn).2
      exact ⟨cs, el, h1, h2, h3, h4, fun k x v hx hv => (h5 k x v hx hv).mono hle⟩
    · exact fun n ob hn => L.hD.typ n ob (hsub n ob hn).2
  have : ∀ b, Decidable (∃ n ob, hfV ns.length j s n = some ob ∧ D'.mu n = b) := fun b => Classical.propDecidable _
  refine (view_ok hH 9 x y v (hx.mono hle) hy).mono ?_
  intro b o v hv
  unfold viewRd at hv
  split at hv
  · rename_i hex
    obtain ⟨n, ob, hn, rfl⟩ := hex
    obtain ⟨h1, h2⟩ := hsub n ob hn
    have hge : w.heap.size ≤ D.mu n := by
      rcases L.st n ob h2 with ⟨h, -⟩ | h
      · exact absurd (.inl h) h1
      · exact h
    have hnl : ¬ D'.mu n < w.heap.size := by simp only [D']; omega
    simp only [Cx.leave]
    rw [if_neg hnl, if_neg]
    · exact hv
    · rintro ⟨m, oc, h3, h4, h5⟩
      have := L.hD.inj m n oc ob h4 h2 h5
      subst this
      exact h1 h3
  · exact L.rdle b o v hv

theorem Left.outC (L : Left C D hf (hget s.h) wr w w' ns nm j) {x y z : AV} {v : Value} (hx : AR D x v) (hy : Dom.outC ns.length j s x = some y) (hz : y.ren (bkOf ns nm) = some z) : AR (C.leave D ns nm j (hget s.h) w w') z v := by
  unfold Dom.outC at hy
  split at hy
  · rename_i p hp
    simp only [Option.some.injEq] at hy; subst hy
    simp only [AV.ren, Option.some.injEq] at hz; subst hz
    exact .v (L.viewed hx (viewC_some hp))
  · exact L.back (L.toMid hx hy) hz

theorem Left.outV (L : Left C D hf (hget s.h) wr w w' ns nm j) {x y z : AV} {v : Value} (hx : AR D x v) (hy : Dom.outV ns.length j s x = some y) (hz : y.ren (bkOf ns nm) = some z) : AR (C.leave D ns nm j (hget s.h) w w') z v := by
  unfold Dom.outV at hy
  split at hy
  · rename_i p hp
    simp only [Option.some.injEq] at hy; subst hy
    simp only [AV.ren, Option.some.injEq] at hz; subst hz
    exact .v (L.viewed hx hp)
  · split at hy
    · rename_i l
      split at hy
      · rename_i l' hl'
        simp only [Option.some.injEq] at hy; subst hy
        simp only [AV.ren] at hz
        split at hz
        · rename_i l'' hl''
          simp only [Option.some.injEq] at hz; subst hz
          cases hx with
          | agg l0 vs hl hxs =>
            obtain ⟨m1, m2⟩ := mapO_some hl'
            obtain ⟨r1, r2⟩ := renL_some hl''
            refine .agg l'' vs (by omega) fun k a u ha hu => ?_
            have hk := (List.getElem?_eq_some_iff.1 ha).1
            have e2 : l'[k]? = some (l'[k]'(by omega)) := List.getElem?_eq_getElem _
            have e1 : _[k]? = some _ := List.getElem?_eq_getElem (m1 ▸ (List.getElem?_eq_some_iff.1 e2).1)
            exact L.outC (hxs k _ u e1 hu) (m2 k _ _ e1 e2) (r2 k _ a e2 ha)
        · cases hz
      · cases hy
    · exact L.back (L.toMid hx hy) hz

theorem Left.heap2 (L : Left C D hf (hget s.h) wr w w' ns nm j) {obsA obs : List AObj} (hln : ns.length = obsA.length) (hlive : ∀ (i n : Nat) (o : AObj), ns[i]? = some n → obsA[i]? = some o → hf n = some o) (hob : mapO (AObj.ren (ixOf ns)) obsA = some obs)
    {fs : List (Option (Option AObj))} {nw : Option AObj} (hfin : finH ns.length j s 0 obs fs) (hnw : finN ns.length j s nw) {up : List (Nat × Option AObj)} (hup : upsOf ns nm fs nw = some up) :
    Heap2 D (C.leave D ns nm j (hget s.h) w w') hf (hget s.h) (updF hf up) ns nm j := by
  obtain ⟨m1, m2⟩ := mapO_some hob
  obtain ⟨q1, q2⟩ := finH_get hfin
  have hnn := L.nmns
  have hnmem : nm ∉ ns := ixOf_mem L.nd hnn
  have hinv : ∀ n m, ixOf ns n = some m → bkOf ns nm m = some n := by
    intro n m h
    unfold bkOf
    rw [ixOf_some h]
  have orel : ∀ (p o o' : AObj), outO ns.length j s p = some o → o.ren (bkOf ns nm) = some o' → ORel D (C.leave D ns nm j (hget s.h) w w') p o' := by
    intro p o o' h1 h2
    obtain ⟨a1, a2, a3, a4⟩ := outO_some h1
    obtain ⟨b1, b2, b3, b4⟩ := AObj.ren_some h2
    obtain ⟨c1, c2⟩ := mapO_some a4
    obtain ⟨d1, d2⟩ := renL_some b4
    refine ⟨b1.trans a1, b2.trans a2, b3.trans a3, by omega, fun k x y hx hy v hv => ?_⟩
    have hk := (List.getElem?_eq_some_iff.1 hx).1
    have e : o.cells[k]? = some (o.cells[k]'(by omega)) := List.getElem?_eq_getElem _
    exact L.outC hv (c2 k x _ hx e) (d2 k _ y e hy)
  obtain ⟨l, hl, hul⟩ : ∃ l, outs (bkOf ns nm) ns fs = some l ∧ ((nw = none ∧ up = l) ∨ ∃ o o', nw = some o ∧ o.ren (bkOf ns nm) = some o' ∧ up = (nm, some o') :: l) := by
    unfold upsOf at hup
    split at hup
    · rename_i l hl; injection hup with hup; exact ⟨l, hl, .inl ⟨rfl, hup.symm⟩⟩
    · rename_i l o hl
      split at hup
      · rename_i o' ho'; injection hup with hup; exact ⟨l, hl, .inr ⟨o, o', rfl, ho', hup.symm⟩⟩
      · cases hup
    · cases hup
  obtain ⟨k1, k2, k3⟩ := outs_look L.nd hl
  have look : ∀ n, n ≠ nm → lookU up n = lookU l n := by
    intro n hne
    rcases hul with ⟨-, rfl⟩ | ⟨o, o', -, -, rfl⟩
    · rfl
    · simp only [lookU, hne, if_false]
      cases lookU l n <;> rfl
  refine ⟨?_, ?_, ?_⟩
  · intro n i hsrc
    rcases hsrc with hi | ⟨hi, rfl, hj⟩
    · have e1 := ixOf_some hi
      have hlt := (List.getElem?_eq_some_iff.1 e1).1
      have e2 : obs[i]? = some (obs[i]'(by omega)) := List.getElem?_eq_getElem _
      have e3 : fs[i]? = some (fs[i]'(by omega)) := List.getElem?_eq_getElem _
      have e4 : obsA[i]? = some (obsA[i]'(by omega)) := List.getElem?_eq_getElem _
      have hne : n ≠ nm := fun e => by rw [e, hnn] at hi; cases hi
      have f1 := q2 i _ _ e2 e3
      have f2 := k3 i n _ e1 e3
      have f3 := m2 i _ _ e4 e2
      have f4 := hlive i n _ e1 e4
      rw [Nat.zero_add] at f1
      rw [updF_look, look n hne]
      generalize fs[i]'(by omega) = f at f1 f2
      match f, f1, f2 with
      | none, f1, f2 =>
        obtain ⟨p, g1, g2⟩ := f1
        simp only at f2
        rw [f2]
        refine ⟨fun h => by rw [g1] at h; (cases h), fun p' hp' => ?_⟩
        rw [g1] at hp'; injection hp' with hp'; subst hp'
        exact ⟨_, f4, orel p _ _ g2 (AObj.ren_inv hinv f3)⟩
      | some none, f1, f2 =>
        simp only at f1 f2
        rw [f2]
        exact ⟨fun _ => rfl, fun p hp => by rw [f1] at hp; cases hp⟩
      | some (some o), f1, f2 =>
        obtain ⟨p, g1, g2⟩ := f1
        obtain ⟨o', g3, g4⟩ := f2
        rw [g4]
        refine ⟨fun h => by rw [g1] at h; (cases h), fun p' hp' => ?_⟩
        rw [g1] at hp'; injection hp' with hp'; subst hp'
        exact ⟨o', rfl, orel p _ _ g2 g3⟩
    · subst hj
      rcases hul with ⟨rfl, -⟩ | ⟨o, o', rfl, h2, rfl⟩
      · simp [finN] at hnw
      · obtain ⟨-, hnw⟩ := hnw
        split at hnw
        · rename_i p hp
          rw [updF_look]
          simp only [lookU, k2 n hnmem, if_true, Option.getD_some]
          refine ⟨fun h => by rw [hp] at h; (cases h), fun p' hp' => ?_⟩
          rw [hp] at hp'; injection hp' with hp'; subst hp'
          exact ⟨o', rfl, orel p _ _ hnw h2⟩
        · exact hnw.elim
  · intro hj
    subst hj
    rcases hul with ⟨rfl, rfl⟩ | ⟨o, o', rfl, -, -⟩
    · rw [updF_look, k2 nm hnmem]
      cases hn : hf nm with
      | none => rfl
      | some ob => exact absurd (L.hC.live nm ob hn).1 L.nm
    · simp [finN] at hnw
  · intro n hi hne
    rw [updF_look, look n hne, k2 n (ixOf_mem L.nd hi)]
    rfl

end
end Go.Dom
