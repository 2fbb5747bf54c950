/-
  AN ITERATOR: the binary digits of a number. Own work.
-/
import Derived.Test.YtpihmkhmhkopdaaGreatDoorV0
import Derived.Test.YtpihmkhmhkopdaaGreatDoorV7
import Derived.RangeFuncKeeps
import Derived.RangeFuncLeaves
import Derived.Shelf.Abstract
import Derived.WalkKit
import Derived.OwnWalkIn
import Derived.TacticsInMore
import Derived.LoopNIn
import Derived.LoopIn
set_option linter.all false
namespace Go.Proofs.YtpihmkhmhkopdaaGreatDoor
open Go Go.Dom Go.RowKit Go.Shelf
set_option maxRecDepth 100000
set_option maxHeartbeats 4000000

/-- A pure contract, at a call in a fenced walk. -/
theorem EvP.calls {P : Program} [Tabs P] {f : FuncId} {args : List PV} {r : PV} (h : EvP P f args r) (he : Go.Dom.Enters P f f) (w : World) (rd : Rd) (vs : List Value) (h1 : ∀ b o v, TR P b o = some v → rd b o = some v) (h2 : ∀ b o v, rd b o = some v → w.cell? ⟨b, o, none⟩ = some v) (h3 : RelL (PR rd) args vs) :
    CallsIn Fence.wide 0 P f vs.toArray w fun e w' => ∃ v, e = .returned v ∧ Below w.heap.size w w' ∧ PR (extRd rd w w') r v := by
  obtain ⟨g, hg, hc⟩ := h
  have : g = f := by
    have a := hg #[] w
    rw [he #[] w] at a
    cases a; rfl
  subst this
  exact callsIn_wide.2 (hc w rd vs h1 h2 h3)
def digs (n : Nat) : Nat → List (List PV)
  | 0 => []
  | k + 1 => [.b (n.testBit k)] :: digs n k
theorem digits_it (e : Bytes) (he : validN e = true) : ItP Tryz.prog 130 [.pt (.agg [.s e]) 0] (digs (num e) (blen (num e))) := by
  refine ⟨Tryz.call130, ?_⟩
  intro w rd cvs l J Jx htr hcaps hrd hb hbx hY h0
  obtain ⟨p, us, rfl, hp, hnil⟩ := hcaps.uncons
  obtain rfl := hnil.nil_inv
  obtain ⟨bk, of, rfl, hcell⟩ : ∃ bk of, p = .pointer (some ⟨bk, of, none⟩) ∧ rd bk of = some (.string ⟨e.toArray⟩) := by
    cases hp with
    | pt x o vs bk of h1 hl hr h =>
      obtain ⟨v, rfl⟩ := List.length_eq_one_iff.1 (show vs.length = 1 from hl.symm)
      have := h 0 (.s e) v rfl rfl
      cases this
      exact ⟨bk, of, rfl, hr 0 _ rfl⟩
  refine callsIn_of_wp Tryz.func130 rfl trivial ?_
  simp only [Tryz.ntmps130, List.size_toArray, List.length_cons, List.length_nil, Nat.reduceAdd, Nat.reduceSub, Array.replicate_succ, Array.replicate_zero, List.push_toArray, List.append_toArray, List.nil_append, List.cons_append]
  have hc0 := hrd _ _ h0 _ _ _ hcell
  gi_wp2
  refine ⟨trivial, rfl, (EvP.calls (Bits_ok he) Tryz.call97 w rd [_] htr (hrd _ _ h0) ?_).mono ?_⟩
  · exact .cons (.s e) .nil
  rintro x w1 ⟨v, rfl, hbl, hpr⟩
  cases hpr
  have h1 := hb _ _ _ h0 hbl
  clear hbl h0 hc0
  have hbd : blen (num e) < 2 ^ 60 := by
    have hl := len_of he
    have := num_lt e
    unfold blen
    split
    · decide
    · rename_i h0
      have h1 : num e < 2 ^ (8 * e.length) := by rw [Nat.pow_mul]; exact this
      have h2 := (Nat.log2_lt h0).2 h1
      omega
  have hw : IntKind.i64.wrap ((blen (num e) : Int) - 1) = (blen (num e) : Int) - 1 := IntWalk.i64_in _ (by omega)
  gi_wp2
  gi_loopw [3] (fun p wr => ∃ k : Nat, p = .int .i64 ((k : Int) - 1) ∧ k ≤ blen (num e) ∧ J (digs (num e) k) wr) (fun p wr => match p with | .int _ n => (n + 1).toNat | _ => 0)
  case atStart =>
    exact ⟨_, rfl, Nat.le_refl _, h1⟩
  case round =>
    obtain ⟨k, rfl, hk, hJ⟩ := hrel
    have hcr := hrd _ _ hJ _ _ _ hcell
    cases k with
    | zero =>
      gi_wp2
      go_end0
      exact ⟨⟨_, rfl⟩, .inl hJ⟩
    | succ k =>
      have hw2 : ((k + 1 : Nat) : Int) - 1 = (k : Int) := by omega
      rw [hw2]
      gi_wp2
      refine ⟨trivial, rfl, (EvP.calls (Bit_ok he k (by omega)) Tryz.call62 wr rd [_, _] htr (hrd _ _ hJ) ?_).mono ?_⟩
      · exact .cons (.s e) (.cons (.i _ _) .nil)
      rintro x w2 ⟨v, rfl, hbl, hpr⟩
      cases hpr
      have hJ2 := hb _ _ _ hJ hbl
      obtain ⟨fn, tmps, assign, body, hy, hR⟩ := hY [.b ((num e).testBit k)] (digs (num e) k) [.bool ((num e).testBit k)] w2 hJ2 (.cons (.b _) .nil)
      gi_wp2
      refine ⟨rfl, hR.mono ?_⟩
      rintro x W3 (⟨rfl, hJ3⟩ | ⟨rfl, hJx⟩)
      · have hw3 : IntKind.i64.wrap ((k : Int) - 1) = (k : Int) - 1 := IntWalk.i64_in _ (by omega)
        gi_wp2
        go_roundw
        case rel => exact ⟨k, rfl, by omega, hJ3⟩
        case measure => simp
      · gi_wp2
        refine bodyPost_ret (results_none rfl _ _ _) rfl ?_
        exact ⟨⟨_, rfl⟩, .inr hJx⟩
end Go.Proofs.YtpihmkhmhkopdaaGreatDoor
