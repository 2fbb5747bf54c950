/-
  AN ITERATOR: the bases of a key. Own work.
-/
import Derived.Test.YtpihmkhmhkopdaaGreatDoorV0
import Derived.Test.YtpihmkhmhkopdaaGreatDoorI1
set_option linter.all false
namespace Go.Proofs.YtpihmkhmhkopdaaGreatDoor
open Go Go.Dom Go.RowKit Go.Shelf
set_option maxRecDepth 100000
set_option maxHeartbeats 4000000

/-- A key. -/
structure Key where
  (name m o z s : Bytes)
  r : List Bytes
  (u h : Bytes)
def Key.pv (k : Key) : PV := .agg [.s k.name, .s k.m, .s k.o, .s k.z, .s k.s, .sl (k.r.map .s), .s k.u, .s k.h]
def bas (n : Int) (b : Bytes) : List PV := [.i .i64 n, .s b]
def Key.bases (k : Key) : List (List PV) := bas 2 k.s :: bas 0 k.z :: bas 1 k.u :: bas 1 k.h :: k.r.map (bas 0)
theorem rel2 {rd : Rd} (n : Int) (b : Bytes) : RelL (PR rd) (bas n b) [.int .i64 n, .string ⟨b.toArray⟩] := .cons (.i _ _) (.cons (.s _) .nil)
theorem bases_it (k : Key) (hk : k.r.length < 1000000) : ItP Tryz.prog 33 [.pt k.pv 0] k.bases := by
  refine ⟨Tryz.call33, ?_⟩
  intro w rd cvs l J Jx htr hcaps hrd hb hbx hY h0
  obtain ⟨p, us, rfl, hp, hnil⟩ := hcaps.uncons
  obtain rfl := hnil.nil_inv
  obtain ⟨bk, of, v5, rfl, c3, c4, c5, c6, c7, p5⟩ : ∃ bk of v5, p = .pointer (some ⟨bk, of, none⟩) ∧ rd bk (of + 3) = some (.string ⟨k.z.toArray⟩) ∧ rd bk (of + 4) = some (.string ⟨k.s.toArray⟩) ∧ rd bk (of + 5) = some v5 ∧ rd bk (of + 6) = some (.string ⟨k.u.toArray⟩) ∧ rd bk (of + 7) = some (.string ⟨k.h.toArray⟩) ∧ PR rd (.sl (k.r.map .s)) v5 := by
    cases hp with
    | pt x o vs bk of h1 hl hr h =>
      have hv : ∀ i, i < 8 → ∃ v, vs[i]? = some v := fun i hi => ⟨_, List.getElem?_eq_getElem (by have : vs.length = 8 := hl.symm; omega)⟩
      obtain ⟨a3, b3⟩ := hv 3 (by decide)
      obtain ⟨a4, b4⟩ := hv 4 (by decide)
      obtain ⟨a5, b5⟩ := hv 5 (by decide)
      obtain ⟨a6, b6⟩ := hv 6 (by decide)
      obtain ⟨a7, b7⟩ := hv 7 (by decide)
      have q3 := h 3 _ _ rfl b3
      have q4 := h 4 _ _ rfl b4
      have q5 := h 5 _ _ rfl b5
      have q6 := h 6 _ _ rfl b6
      have q7 := h 7 _ _ rfl b7
      cases q3; cases q4; cases q6; cases q7
      exact ⟨bk, of, a5, rfl, hr 3 _ b3, hr 4 _ b4, hr 5 _ b5, hr 6 _ b6, hr 7 _ b7, q5⟩
  refine callsIn_of_wp Tryz.func33 rfl trivial ?_
  simp only [Tryz.ntmps33, List.size_toArray, List.length_cons, List.length_nil, Nat.reduceAdd, Nat.reduceSub, Array.replicate_succ, Array.replicate_zero, List.push_toArray, List.append_toArray, List.nil_append, List.cons_append]
  have d4 := hrd _ _ h0 _ _ _ c4
  obtain ⟨fn, tmps, assign, body, hy, hR⟩ := hY (bas 2 k.s) _ _ w h0 (rel2 _ _)
  gi_wp2
  refine ⟨rfl, hR.mono ?_⟩
  rintro x W1 (⟨rfl, hJ1⟩ | ⟨rfl, hJx⟩)
  case inr => (gi_wp2; repeat (refine ⟨fun _ h => (by cases h), ?_⟩; gi_wp2)); refine bodyPost_ret (results_none rfl _ _ _) rfl ?_; exact ⟨⟨_, rfl⟩, .inr hJx⟩
  have d3 := hrd _ _ hJ1 _ _ _ c3
  obtain ⟨fn, tmps, assign, body, hy, hR⟩ := hY (bas 0 k.z) _ _ W1 hJ1 (rel2 _ _)
  gi_wp2
  refine ⟨rfl, hR.mono ?_⟩
  rintro x W2 (⟨rfl, hJ2⟩ | ⟨rfl, hJx⟩)
  case inr => (gi_wp2; repeat (refine ⟨fun _ h => (by cases h), ?_⟩; gi_wp2)); refine bodyPost_ret (results_none rfl _ _ _) rfl ?_; exact ⟨⟨_, rfl⟩, .inr hJx⟩
  have d6 := hrd _ _ hJ2 _ _ _ c6
  obtain ⟨fn, tmps, assign, body, hy, hR⟩ := hY (bas 1 k.u) _ _ W2 hJ2 (rel2 _ _)
  gi_wp2
  refine ⟨rfl, hR.mono ?_⟩
  rintro x W3 (⟨rfl, hJ3⟩ | ⟨rfl, hJx⟩)
  case inr => (gi_wp2; repeat (refine ⟨fun _ h => (by cases h), ?_⟩; gi_wp2)); refine bodyPost_ret (results_none rfl _ _ _) rfl ?_; exact ⟨⟨_, rfl⟩, .inr hJx⟩
  have d7 := hrd _ _ hJ3 _ _ _ c7
  obtain ⟨fn, tmps, assign, body, hy, hR⟩ := hY (bas 1 k.h) _ _ W3 hJ3 (rel2 _ _)
  gi_wp2
  refine ⟨rfl, hR.mono ?_⟩
  rintro x W4 (⟨rfl, hJ4⟩ | ⟨rfl, hJx⟩)
  case inr => (gi_wp2; repeat (refine ⟨fun _ h => (by cases h), ?_⟩; gi_wp2)); refine bodyPost_ret (results_none rfl _ _ _) rfl ?_; exact ⟨⟨_, rfl⟩, .inr hJx⟩
  have d5 := hrd _ _ hJ4 _ _ _ c5
  clear d3 d4 d6 d7 hJ1 hJ2 hJ3 h0
  obtain ⟨ad, cap, rfl, hel⟩ : ∃ ad cap, v5 = .slice ad k.r.length cap ∧ ∀ i (hi : i < k.r.length), ∃ b2 o2, ad = some ⟨b2, o2, none⟩ ∧ rd b2 (o2 + i) = some (.string ⟨(k.r[i]).toArray⟩) := by
    have hfm : (k.r.map PV.s).flatMap PV.cells = k.r.map PV.s := by
      generalize k.r = r
      induction r with
      | nil => rfl
      | cons x r ih => simp_all [PV.cells]
    generalize hL : k.r.map PV.s = L at p5 hfm
    cases p5 with
    | sl0 =>
      have : k.r = [] := by simpa using hL
      exact ⟨none, 0, by rw [this]; rfl, fun i hi => by rw [this] at hi; cases hi⟩
    | sle a cap =>
      have : k.r = [] := by simpa using hL
      exact ⟨some a, cap, by rw [this]; rfl, fun i hi => by rw [this] at hi; cases hi⟩
    | sl _ z vs b2 o2 cap hc hz h1 hl hr h =>
      refine ⟨some ⟨b2, o2, none⟩, cap, by rw [← hL]; simp, fun i hi => ⟨b2, o2, rfl, ?_⟩⟩
      rw [hfm] at hl h
      have hiv : i < vs.length := by rw [← hl, ← hL]; simpa using hi
      have e1 : vs[i]? = some vs[i] := List.getElem?_eq_getElem hiv
      have := h i (.s k.r[i]) vs[i] (by rw [← hL]; simp [hi]) e1
      rw [hr i _ e1]
      generalize vs[i] = q at this
      cases this; rfl
  gi_wp2
  gi_loopw [4, 34] (fun q p wr => ∃ i : Nat, p = .int .i64 (i : Int) ∧ i ≤ k.r.length ∧ J ((k.r.drop i).map (bas 0)) wr) (fun q p wr => match p with | .int _ n => k.r.length - n.toNat | _ => 0)
  case atStart =>
    exact ⟨0, rfl, Nat.zero_le _, hJ4⟩
  case round =>
    obtain ⟨i, rfl, hi, hJ⟩ := hrel
    by_cases hlt : i < k.r.length
    · obtain ⟨b2, o2, rfl, hc⟩ := hel i hlt
      have hcell := hrd _ _ hJ _ _ _ hc
      rw [List.drop_eq_getElem_cons hlt, List.map_cons] at hJ
      obtain ⟨fn, tmps, assign, body, hy, hR⟩ := hY (bas 0 k.r[i]) _ _ wr hJ (rel2 _ _)
      have h1 : decide ((i : Int) < (k.r.length : Int)) = true := by simp; omega
      gi_wp2
      refine ⟨rfl, hR.mono ?_⟩
      rintro x W5 (⟨rfl, hJ5⟩ | ⟨rfl, hJx⟩)
      · have hw3 : IntKind.i64.wrap ((i : Int) + 1) = (i : Int) + 1 := IntWalk.i64_in _ (by omega)
        gi_wp2
        go_roundw
        case rel => exact ⟨i + 1, rfl, by omega, hJ5⟩
        case measure => simp; omega
      · gi_wp2
        refine bodyPost_ret (results_none rfl _ _ _) rfl ?_
        exact ⟨⟨_, rfl⟩, .inr hJx⟩
    · obtain rfl : i = k.r.length := by omega
      rw [List.drop_length] at hJ
      have h1 : decide ((k.r.length : Int) < (k.r.length : Int)) = false := by simp
      gi_wp2
      go_end0
      exact ⟨⟨_, rfl⟩, .inl hJ⟩
end Go.Proofs.YtpihmkhmhkopdaaGreatDoor
