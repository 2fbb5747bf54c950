/-
  WALKS: trailing zeros; of package natural: binary digits, products, quotients of words, common divisors. Own work.
-/
import Derived.Test.YtpihmkhmhkopdaaGreatDoorV0
import Derived.Test.YtpihmkhmhkopdaaGreatDoorV2
import Derived.Test.YtpihmkhmhkopdaaGreatDoorV4
set_option linter.all false
namespace Go.Proofs.YtpihmkhmhkopdaaGreatDoor
open Go Go.Dom
set_option maxRecDepth 100000
set_option maxHeartbeats 4000000

theorem tabGet {l : List Nat} {i : Nat} (h : i < l.length) : (l.map fun n : Nat => PV.i .u8 n).getD i .fn0 = .i .u8 (l.getD i 0 : Nat) := by
  simp [List.getD_eq_getElem?_getD, h]
theorem TrailingZeros64_ok (x : Nat) (h0 : x ≠ 0) (h : x < 18446744073709551616) : EvP Tryz.prog 108 [.i .u64 x] (E (Lib.ctz 64 x : Nat)) := by
  obtain ⟨g1, g2⟩ := Lib.lowest_bit 64 x h0 h
  obtain ⟨g3, g4⟩ := Lib.deBruijn64_at _ g2
  obtain ⟨k, hk⟩ : ∃ k, k = Lib.ctz 64 x := ⟨_, rfl⟩
  rw [← hk] at g1 g2 g3 g4 ⊢
  obtain ⟨p, hp⟩ : ∃ p, p = 2 ^ k := ⟨_, rfl⟩
  rw [← hp] at g1 g3 g4
  obtain ⟨i, hi⟩ : ∃ i, i = p * 285870213051353865 % 18446744073709551616 / 288230376151711744 := ⟨_, rfl⟩
  rw [← hi] at g3 g4
  have e1 : ∀ _ : True, IntKind.u64.wrap (0 - (x : Int)) = ((18446744073709551616 - x : Nat) : Int) := fun _ => by rw [wu64]; omega
  have e2 : ∀ _ : True, iAnd .u64 (x : Int) ((18446744073709551616 - x : Nat) : Int) = ((p : Nat) : Int) := fun _ => by
    rw [iAndN .u64 rfl h (by show 18446744073709551616 - x < 18446744073709551616; omega)]; exact congrArg _ g1
  have e3 : ∀ _ : True, p * 285870213051353865 % 18446744073709551616 / 288230376151711744 = i := fun _ => hi.symm
  have e4 := tabGet (l := Lib.deBruijn64tab) (i := i) (by exact g3)
  rw [g4] at e4
  have e5 : ∀ _ : True, ([(.i .u8 0), (.i .u8 1), (.i .u8 56), (.i .u8 2), (.i .u8 57), (.i .u8 49), (.i .u8 28), (.i .u8 3), (.i .u8 61), (.i .u8 58), (.i .u8 42), (.i .u8 50), (.i .u8 38), (.i .u8 29), (.i .u8 17), (.i .u8 4), (.i .u8 62), (.i .u8 47), (.i .u8 59), (.i .u8 36), (.i .u8 45), (.i .u8 43), (.i .u8 51), (.i .u8 22), (.i .u8 53), (.i .u8 39), (.i .u8 33), (.i .u8 30), (.i .u8 24), (.i .u8 18), (.i .u8 12), (.i .u8 5), (.i .u8 63), (.i .u8 55), (.i .u8 48), (.i .u8 27), (.i .u8 60), (.i .u8 41), (.i .u8 37), (.i .u8 16), (.i .u8 46), (.i .u8 35), (.i .u8 44), (.i .u8 21), (.i .u8 52), (.i .u8 32), (.i .u8 23), (.i .u8 11), (.i .u8 54), (.i .u8 26), (.i .u8 40), (.i .u8 15), (.i .u8 34), (.i .u8 20), (.i .u8 31), (.i .u8 10), (.i .u8 25), (.i .u8 14), (.i .u8 19), (.i .u8 9), (.i .u8 13), (.i .u8 8), (.i .u8 7), (.i .u8 6)] : List PV).getD i .fn0 = .i .u8 (k : Nat) := fun _ => e4
  clear g1 g4 hi hp e4
  refine EvP.w mixed Tryz.call108 Tryz.func108 rfl (by cbv) (by cbv) rfl ?_
  simp only [go_sem, seval, Bool.not_true, Bool.not_false , e1 trivial, e2 trivial, mulUL, e3 trivial, e5 trivial]
  repeat' (first | (simp only [go_sem, seval, Bool.not_true, Bool.not_false , e1 trivial, e2 trivial, mulUL, e3 trivial, e5 trivial]) | (simp (disch := omega) only [IntWalk.i64_in, IntWalk.u64_in]) | (with_reducible refine CC.T (by assumption) ?_) | (with_reducible refine CC.F (by assumption) ?_) | (with_reducible refine CC.bT (by assumption) ?_) | (with_reducible refine CC.bF (by assumption) ?_) | (with_reducible refine GB.T (by assumption) ?_) | (with_reducible refine GB.F (by assumption) ?_) | (with_reducible refine GB.bT (by assumption) ?_) | (with_reducible refine GB.bF (by assumption) ?_) | (with_reducible refine CC.dT (by omega) ?_) | (with_reducible refine CC.dF (by omega) ?_) | (with_reducible refine CC.eT (by omega) ?_) | (with_reducible refine CC.eF (by omega) ?_) | (with_reducible refine GB.dT (by omega) ?_) | (with_reducible refine GB.dF (by omega) ?_) | (with_reducible refine GB.eT (by omega) ?_) | (with_reducible refine GB.eF (by omega) ?_) | (with_reducible refine CC.nT (by omega) ?_) | (with_reducible refine CC.nF (by omega) ?_) | (with_reducible refine CC.bb (fun hc => ?_) (fun hc => ?_)) | (with_reducible refine GB.bb (fun hc => ?_) (fun hc => ?_)) | (with_reducible refine CC.d (fun hc => ?_) (fun hc => ?_)) | (with_reducible refine CC.e (fun hc => ?_) (fun hc => ?_)) | (with_reducible refine CC.n (fun hc => ?_) (fun hc => ?_)) | (with_reducible refine CC.mk (fun hc => ?_) (fun hc => ?_)) | (with_reducible refine GB.d (fun hc => ?_) (fun hc => ?_)) | (with_reducible refine GB.e (fun hc => ?_) (fun hc => ?_)) | (with_reducible refine GB.n (fun hc => ?_) (fun hc => ?_)) | (with_reducible refine GB.mk (fun hc => ?_) (fun hc => ?_)) | (with_reducible refine And.intro (by first | omega | decide) ?_) | omega | decide | fail)
  all_goals skip
end Go.Proofs.YtpihmkhmhkopdaaGreatDoor
