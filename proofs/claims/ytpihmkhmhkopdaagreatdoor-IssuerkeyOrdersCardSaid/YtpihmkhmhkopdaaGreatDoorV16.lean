/-
  WALKS of package issuerkey: names. Own work.
-/
import Derived.Test.YtpihmkhmhkopdaaGreatDoorV0
import Derived.Test.YtpihmkhmhkopdaaGreatDoorV14
set_option linter.all false
namespace Go.Proofs.YtpihmkhmhkopdaaGreatDoor
open Go Go.Dom Go.Num
set_option maxRecDepth 100000
set_option maxHeartbeats 8000000

def badC (i : Nat) (c : Int) : Bool := !((decide (c ≥ 97) && decide (c ≤ 122)) || (decide (c ≥ 65) && decide (c ≤ 90))) && (((i : Int) == 0) || ((c != 95) && (decide (c < 48) || decide (c > 57))))
def chr (n : Bytes) (i : Nat) : Int := ((n.getD i 0).toNat : Int)
def nameB (n : Bytes) : Bool := (List.range n.length).all (fun i => !badC i (chr n i)) && !(n == []) && decide (n.length ≤ 32)
theorem isName_ok (n : Bytes) (hn : n.length ≤ 60) : EvP Tryz.prog 26 [.s n] (.b (nameB n)) := by
  refine EvP.w mixed Tryz.call26 Tryz.func26 rfl (by cbv) (by cbv) rfl ?_
  simp only [go_sem, seval, Bool.not_true, Bool.not_false]
  repeat' (first | (simp only [go_sem, seval, Bool.not_true, Bool.not_false]) | (simp (disch := omega) only [IntWalk.i64_in, IntWalk.u64_in]) | (with_reducible refine CC.T (by assumption) ?_) | (with_reducible refine CC.F (by assumption) ?_) | (with_reducible refine CC.bT (by assumption) ?_) | (with_reducible refine CC.bF (by assumption) ?_) | (with_reducible refine GB.T (by assumption) ?_) | (with_reducible refine GB.F (by assumption) ?_) | (with_reducible refine GB.bT (by assumption) ?_) | (with_reducible refine GB.bF (by assumption) ?_) | (with_reducible refine CC.dT (by omega) ?_) | (with_reducible refine CC.dF (by omega) ?_) | (with_reducible refine CC.eT (by omega) ?_) | (with_reducible refine CC.eF (by omega) ?_) | (with_reducible refine GB.dT (by omega) ?_) | (with_reducible refine GB.dF (by omega) ?_) | (with_reducible refine GB.eT (by omega) ?_) | (with_reducible refine GB.eF (by omega) ?_) | (with_reducible refine CC.nT (by omega) ?_) | (with_reducible refine CC.nF (by omega) ?_) | (with_reducible refine CC.bb (fun hc => ?_) (fun hc => ?_)) | (with_reducible refine GB.bb (fun hc => ?_) (fun hc => ?_)) | (with_reducible refine CC.d (fun hc => ?_) (fun hc => ?_)) | (with_reducible refine CC.e (fun hc => ?_) (fun hc => ?_)) | (with_reducible refine CC.n (fun hc => ?_) (fun hc => ?_)) | (with_reducible refine CC.mk (fun hc => ?_) (fun hc => ?_)) | (with_reducible refine GB.d (fun hc => ?_) (fun hc => ?_)) | (with_reducible refine GB.e (fun hc => ?_) (fun hc => ?_)) | (with_reducible refine GB.n (fun hc => ?_) (fun hc => ?_)) | (with_reducible refine GB.mk (fun hc => ?_) (fun hc => ?_)) | (with_reducible refine And.intro (by first | omega | decide) ?_) | omega | decide | fail)
  refine loop_run (α := Nat) (fun i => n.length - i) (fun i => ⟨[(0, .v (.s n)), (7, .v (.i .i64 n.length)), (8, .v (.i .i64 (i : Nat)))], [], _⟩) (fun i => i ≤ n.length ∧ ∀ j, j < i → badC j (chr n j) = false) 0 (fun _ => Nat.le_refl _) ⟨Nat.zero_le _, fun j hj => by omega⟩ ?_ ?_
  · (refine AS.Le.of (by first | decide | omega) ?_ ?_ <;> simp [LeT, LeH, tget, hget, AV.bd, AV.bd.bdL, u8, bd_cellsOf, bcells_bd, icells_bd])
  · rintro i ⟨hi, ha⟩ R hR
    by_cases hlt : i < n.length
    · have hlt' : (i : Int) < n.length := by omega
      have hbad : badC i (chr n i) = true → nameB n = false := by
        intro h
        unfold nameB
        have : (List.range n.length).all (fun i => !badC i (chr n i)) = false := by
          rw [Bool.eq_false_iff]; intro g
          have := List.all_eq_true.1 g i (List.mem_range.2 hlt)
          rw [h] at this; cases this
        rw [this]; rfl
      have hgo : badC i (chr n i) = false → ∀ s', (AS.mk [(0, .v (.s n)), (7, .v (.i .i64 n.length)), (8, .v (.i .i64 ((i + 1 : Nat) : Int)))] [] 1004).Le s' → R s' := by
        intro h s' hs
        refine hR (i + 1) ⟨by omega, fun j hj => ?_⟩ (by omega) s' hs
        by_cases e : j = i
        · subst e; exact h
        · exact ha j (by omega)
      clear hR ha
      obtain ⟨c, hcc⟩ : ∃ c, chr n i = c := ⟨_, rfl⟩
      have hcd : ((n.getD i 0).toNat : Int) = c := hcc
      have h0 : 0 ≤ c ∧ c < 256 := by rw [← hcd]; have := (n.getD i 0).toNat_lt; omega
      rw [hcc] at hbad hgo
      unfold badC at hbad hgo
      obtain ⟨b1, h1⟩ : ∃ b, decide (c ≥ 97) = b := ⟨_, rfl⟩
      obtain ⟨b2, h2⟩ : ∃ b, decide (c ≤ 122) = b := ⟨_, rfl⟩
      obtain ⟨b3, h3⟩ : ∃ b, decide (c ≥ 65) = b := ⟨_, rfl⟩
      obtain ⟨b4, h4⟩ : ∃ b, decide (c ≤ 90) = b := ⟨_, rfl⟩
      obtain ⟨b5, h5⟩ : ∃ b, ((i : Int) == 0) = b := ⟨_, rfl⟩
      obtain ⟨b6, h6⟩ : ∃ b, (c != 95) = b := ⟨_, rfl⟩
      obtain ⟨b7, h7⟩ : ∃ b, decide (c < 48) = b := ⟨_, rfl⟩
      obtain ⟨b8, h8⟩ : ∃ b, decide (c > 57) = b := ⟨_, rfl⟩
      rw [h1, h2, h3, h4, h5, h6, h7, h8] at hbad hgo
      have e1 : decide ((i : Int) < (n.length : Int)) = true := decide_eq_true hlt'
      repeat' (first | (simp only [go_sem, seval, Bool.not_true, Bool.not_false , hcd, h1, h2, h3, h4, h5, h6, h7, h8, e1]) | (simp (disch := omega) only [IntWalk.i64_in, IntWalk.u64_in]) | (with_reducible refine CC.T (by assumption) ?_) | (with_reducible refine CC.F (by assumption) ?_) | (with_reducible refine CC.bT (by assumption) ?_) | (with_reducible refine CC.bF (by assumption) ?_) | (with_reducible refine GB.T (by assumption) ?_) | (with_reducible refine GB.F (by assumption) ?_) | (with_reducible refine GB.bT (by assumption) ?_) | (with_reducible refine GB.bF (by assumption) ?_) | (with_reducible refine CC.dT (by omega) ?_) | (with_reducible refine CC.dF (by omega) ?_) | (with_reducible refine CC.eT (by omega) ?_) | (with_reducible refine CC.eF (by omega) ?_) | (with_reducible refine GB.dT (by omega) ?_) | (with_reducible refine GB.dF (by omega) ?_) | (with_reducible refine GB.eT (by omega) ?_) | (with_reducible refine GB.eF (by omega) ?_) | (with_reducible refine CC.nT (by omega) ?_) | (with_reducible refine CC.nF (by omega) ?_) | (with_reducible refine CC.bb (fun hc => ?_) (fun hc => ?_)) | (with_reducible refine GB.bb (fun hc => ?_) (fun hc => ?_)) | (with_reducible refine CC.d (fun hc => ?_) (fun hc => ?_)) | (with_reducible refine CC.e (fun hc => ?_) (fun hc => ?_)) | (with_reducible refine CC.n (fun hc => ?_) (fun hc => ?_)) | (with_reducible refine CC.mk (fun hc => ?_) (fun hc => ?_)) | (with_reducible refine GB.d (fun hc => ?_) (fun hc => ?_)) | (with_reducible refine GB.e (fun hc => ?_) (fun hc => ?_)) | (with_reducible refine GB.n (fun hc => ?_) (fun hc => ?_)) | (with_reducible refine GB.mk (fun hc => ?_) (fun hc => ?_)) | (with_reducible refine And.intro (by first | omega | decide) ?_) | omega | decide | fail)
      all_goals clear h1 h2 h3 h4 h5 h6 h7 h8 hcd hcc h0
      all_goals try simp only [Bool.not_eq_true', Bool.not_eq_false'] at *
      all_goals subst_vars
      all_goals first
          | (refine hgo rfl _ ?_; (refine AS.Le.of (by first | decide | omega) ?_ ?_ <;> simp [LeT, LeH, tget, hget, AV.bd, AV.bd.bdL, u8, bd_cellsOf, bcells_bd, icells_bd]); done)
          | (rw [hbad rfl]; done)
          | (cases b6 <;> first | (simp at hc; done) | (refine hgo rfl _ ?_; (refine AS.Le.of (by first | decide | omega) ?_ ?_ <;> simp [LeT, LeH, tget, hget, AV.bd, AV.bd.bdL, u8, bd_cellsOf, bcells_bd, icells_bd]); done) | (rw [hbad rfl]; done) | fail)
          | fail
    · obtain rfl : i = n.length := by omega
      have e : nameB n = (!(n == []) && decide (n.length ≤ 32)) := by
        unfold nameB
        have : (List.range n.length).all (fun i => !badC i (chr n i)) = true := by
          rw [List.all_eq_true]; intro j hj; rw [ha j (List.mem_range.1 hj)]; rfl
        rw [this, Bool.true_and]
      rw [e]
      have e2 : decide ((n.length : Int) ≤ 32) = decide (n.length ≤ 32) := by rw [decide_eq_decide]; omega
      clear ha hR e
      repeat' (first | (simp only [go_sem, seval, Bool.not_true, Bool.not_false]) | (simp (disch := omega) only [IntWalk.i64_in, IntWalk.u64_in]) | (with_reducible refine CC.T (by assumption) ?_) | (with_reducible refine CC.F (by assumption) ?_) | (with_reducible refine CC.bT (by assumption) ?_) | (with_reducible refine CC.bF (by assumption) ?_) | (with_reducible refine GB.T (by assumption) ?_) | (with_reducible refine GB.F (by assumption) ?_) | (with_reducible refine GB.bT (by assumption) ?_) | (with_reducible refine GB.bF (by assumption) ?_) | (with_reducible refine CC.dT (by omega) ?_) | (with_reducible refine CC.dF (by omega) ?_) | (with_reducible refine CC.eT (by omega) ?_) | (with_reducible refine CC.eF (by omega) ?_) | (with_reducible refine GB.dT (by omega) ?_) | (with_reducible refine GB.dF (by omega) ?_) | (with_reducible refine GB.eT (by omega) ?_) | (with_reducible refine GB.eF (by omega) ?_) | (with_reducible refine CC.nT (by omega) ?_) | (with_reducible refine CC.nF (by omega) ?_) | (with_reducible refine CC.bb (fun hc => ?_) (fun hc => ?_)) | (with_reducible refine GB.bb (fun hc => ?_) (fun hc => ?_)) | (with_reducible refine CC.d (fun hc => ?_) (fun hc => ?_)) | (with_reducible refine CC.e (fun hc => ?_) (fun hc => ?_)) | (with_reducible refine CC.n (fun hc => ?_) (fun hc => ?_)) | (with_reducible refine CC.mk (fun hc => ?_) (fun hc => ?_)) | (with_reducible refine GB.d (fun hc => ?_) (fun hc => ?_)) | (with_reducible refine GB.e (fun hc => ?_) (fun hc => ?_)) | (with_reducible refine GB.n (fun hc => ?_) (fun hc => ?_)) | (with_reducible refine GB.mk (fun hc => ?_) (fun hc => ?_)) | (with_reducible refine And.intro (by first | omega | decide) ?_) | omega | decide | fail)
      all_goals simp_all
end Go.Proofs.YtpihmkhmhkopdaaGreatDoor
