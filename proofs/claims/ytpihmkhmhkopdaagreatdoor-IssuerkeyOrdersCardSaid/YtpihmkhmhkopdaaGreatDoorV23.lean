/-
  WALKS of the law: its examples. Own work.
-/
import Derived.Test.YtpihmkhmhkopdaaGreatDoorV0
import Derived.Test.YtpihmkhmhkopdaaGreatDoorV21
import Derived.Test.YtpihmkhmhkopdaaGreatDoorV22
set_option linter.all false
namespace Go.Proofs.YtpihmkhmhkopdaaGreatDoor
open Go Go.Dom Go.Num
set_option maxRecDepth 100000
set_option maxHeartbeats 16000000

theorem pn_ok (x : Int) : EvP Tryz.prog 51 [.i .u8 x] (.s [UInt8.ofNat x.toNat]) := by
  refine EvP.w mixed Tryz.call51 Tryz.func51 rfl (by cbv) (by cbv) rfl ?_
  simp only [go_sem, seval, Bool.not_true, Bool.not_false]
  repeat' (first | (simp only [go_sem, seval, Bool.not_true, Bool.not_false]) | (simp (disch := omega) only [IntWalk.i64_in, IntWalk.u64_in]) | (with_reducible refine CC.T (by assumption) ?_) | (with_reducible refine CC.F (by assumption) ?_) | (with_reducible refine CC.bT (by assumption) ?_) | (with_reducible refine CC.bF (by assumption) ?_) | (with_reducible refine GB.T (by assumption) ?_) | (with_reducible refine GB.F (by assumption) ?_) | (with_reducible refine GB.bT (by assumption) ?_) | (with_reducible refine GB.bF (by assumption) ?_) | (with_reducible refine CC.dT (by omega) ?_) | (with_reducible refine CC.dF (by omega) ?_) | (with_reducible refine CC.eT (by omega) ?_) | (with_reducible refine CC.eF (by omega) ?_) | (with_reducible refine GB.dT (by omega) ?_) | (with_reducible refine GB.dF (by omega) ?_) | (with_reducible refine GB.eT (by omega) ?_) | (with_reducible refine GB.eF (by omega) ?_) | (with_reducible refine CC.nT (by omega) ?_) | (with_reducible refine CC.nF (by omega) ?_) | (with_reducible refine CC.bb (fun hc => ?_) (fun hc => ?_)) | (with_reducible refine GB.bb (fun hc => ?_) (fun hc => ?_)) | (with_reducible refine CC.d (fun hc => ?_) (fun hc => ?_)) | (with_reducible refine CC.e (fun hc => ?_) (fun hc => ?_)) | (with_reducible refine CC.n (fun hc => ?_) (fun hc => ?_)) | (with_reducible refine CC.mk (fun hc => ?_) (fun hc => ?_)) | (with_reducible refine GB.d (fun hc => ?_) (fun hc => ?_)) | (with_reducible refine GB.e (fun hc => ?_) (fun hc => ?_)) | (with_reducible refine GB.n (fun hc => ?_) (fun hc => ?_)) | (with_reducible refine GB.mk (fun hc => ?_) (fun hc => ?_)) | (with_reducible refine And.intro (by first | omega | decide) ?_) | omega | decide | fail)
theorem Params_ok : EvP Tryz.prog 18 [] P0.pv := by
  refine EvP.w mixed Tryz.call18 Tryz.func18 rfl (by cbv) (by cbv) rfl ?_
  simp only [go_sem, seval, Bool.not_true, Bool.not_false]
  repeat' (first | (simp only [go_sem, seval, Bool.not_true, Bool.not_false]) | (refine CR_pure (pn_ok _) rfl ?_) | (simp (disch := omega) only [IntWalk.i64_in, IntWalk.u64_in]) | (with_reducible refine CC.T (by assumption) ?_) | (with_reducible refine CC.F (by assumption) ?_) | (with_reducible refine CC.bT (by assumption) ?_) | (with_reducible refine CC.bF (by assumption) ?_) | (with_reducible refine GB.T (by assumption) ?_) | (with_reducible refine GB.F (by assumption) ?_) | (with_reducible refine GB.bT (by assumption) ?_) | (with_reducible refine GB.bF (by assumption) ?_) | (with_reducible refine CC.dT (by omega) ?_) | (with_reducible refine CC.dF (by omega) ?_) | (with_reducible refine CC.eT (by omega) ?_) | (with_reducible refine CC.eF (by omega) ?_) | (with_reducible refine GB.dT (by omega) ?_) | (with_reducible refine GB.dF (by omega) ?_) | (with_reducible refine GB.eT (by omega) ?_) | (with_reducible refine GB.eF (by omega) ?_) | (with_reducible refine CC.nT (by omega) ?_) | (with_reducible refine CC.nF (by omega) ?_) | (with_reducible refine CC.bb (fun hc => ?_) (fun hc => ?_)) | (with_reducible refine GB.bb (fun hc => ?_) (fun hc => ?_)) | (with_reducible refine CC.d (fun hc => ?_) (fun hc => ?_)) | (with_reducible refine CC.e (fun hc => ?_) (fun hc => ?_)) | (with_reducible refine CC.n (fun hc => ?_) (fun hc => ?_)) | (with_reducible refine CC.mk (fun hc => ?_) (fun hc => ?_)) | (with_reducible refine GB.d (fun hc => ?_) (fun hc => ?_)) | (with_reducible refine GB.e (fun hc => ?_) (fun hc => ?_)) | (with_reducible refine GB.n (fun hc => ?_) (fun hc => ?_)) | (with_reducible refine GB.mk (fun hc => ?_) (fun hc => ?_)) | (with_reducible refine And.intro (by first | omega | decide) ?_) | omega | decide | fail)
  rfl
def K2 : Key := ⟨bank, [77], [], [64], [4], [[23], [1]], [64], [60]⟩
theorem check2_ok (k : Key) (hk : keyE 0 k = 0) (lm : k.m.length ≤ 8) (ln : k.name.length ≤ 60) (lr : k.r.length ≤ 20) : EvP Tryz.prog 12 [P0.pv, k.pv] (E 0) := by
  have h := keyCheck_ok P0 k 0 P0_ok lm ln lr
  rwa [hk] at h
theorem check_K1 : EvP Tryz.prog 12 [P0.pv, K1.pv] (E 0) := check2_ok K1 (by decide +kernel) (by decide) (by decide) (by decide)
theorem check_K2 : EvP Tryz.prog 12 [P0.pv, K2.pv] (E 0) := check2_ok K2 (by decide +kernel) (by decide) (by decide) (by decide)
theorem fits_K1 : EvP Tryz.prog 5 [P0.pv, K1.pv, G [7] [11]] (E 0) := by
  have h := Fits_ok P0 K1 [7] [11] 0 check_K1 (by decide) (by decide)
  rwa [show fitsE 0 K1 [7] [11] = 0 by decide +kernel] at h
theorem fits_K2 : EvP Tryz.prog 5 [P0.pv, K2.pv, G [7] [11]] (E 13) := by
  have h := Fits_ok P0 K2 [7] [11] 0 check_K2 (by decide) (by decide)
  rwa [show fitsE 0 K2 [7] [11] = 13 by decide +kernel] at h
theorem awake_ok : EvP Tryz.prog 6 [] (.b true) := by
  have h1 := Params_ok
  have h2 := Make_ok
  have h3 := EqualN_ok [[3], [2], [7], [5], []] [[3], [2], [7], [5], []] (by decide) (by decide)
  have h4 := EqualN_ok [[23], [1]] [[23], [1]] (by decide) (by decide)
  rw [decide_eq_true rfl] at h3 h4
  have h5 := fits_K1
  have h6 := check_K2
  have h7 := fits_K2
  simp only [List.map_cons, List.map_nil] at h3 h4
  have e1 : K1.pv = .agg [.s bank, .s [77], .s [], .s [64], .s [4], .sl [.s [23], .s [1]], .s [16], .s [60]] := rfl
  have e2 : K2.pv = .agg [.s bank, .s [77], .s [], .s [64], .s [4], .sl [.s [23], .s [1]], .s [64], .s [60]] := rfl
  have e3 : T vs0 [] 0 = .agg [.sl [.s [2], .s [3], .s [2], .s [7], .s [5], .s []], .s [], .i .i64 0] := rfl
  have e4 : bank = [98, 97, 110, 107] := rfl
  rw [e1, e3] at h2
  rw [e1] at h5
  rw [e2] at h6 h7
  rw [e4] at h2 h5 h6 h7
  generalize P0.pv = pp at *
  refine EvP.w mixed Tryz.call6 Tryz.func6 rfl (by cbv) (by cbv) rfl ?_
  simp only [go_sem, seval, Bool.not_true, Bool.not_false]
  repeat' (first | (simp only [go_sem, seval, Bool.not_true, Bool.not_false , beq_self_eq_true]) | (refine CR_pure (h1) rfl ?_) | (refine CR_pure (h2) rfl ?_) | (refine CR_pure (h3) rfl ?_) | (refine CR_pure (h4) rfl ?_) | (refine CR_pure (h5) rfl ?_) | (refine CR_pure (h6) rfl ?_) | (refine CR_pure (h7) rfl ?_) | (simp (disch := omega) only [IntWalk.i64_in, IntWalk.u64_in]) | (with_reducible refine CC.T (by assumption) ?_) | (with_reducible refine CC.F (by assumption) ?_) | (with_reducible refine CC.bT (by assumption) ?_) | (with_reducible refine CC.bF (by assumption) ?_) | (with_reducible refine GB.T (by assumption) ?_) | (with_reducible refine GB.F (by assumption) ?_) | (with_reducible refine GB.bT (by assumption) ?_) | (with_reducible refine GB.bF (by assumption) ?_) | (with_reducible refine CC.dT (by omega) ?_) | (with_reducible refine CC.dF (by omega) ?_) | (with_reducible refine CC.eT (by omega) ?_) | (with_reducible refine CC.eF (by omega) ?_) | (with_reducible refine GB.dT (by omega) ?_) | (with_reducible refine GB.dF (by omega) ?_) | (with_reducible refine GB.eT (by omega) ?_) | (with_reducible refine GB.eF (by omega) ?_) | (with_reducible refine CC.nT (by omega) ?_) | (with_reducible refine CC.nF (by omega) ?_) | (with_reducible refine CC.bb (fun hc => ?_) (fun hc => ?_)) | (with_reducible refine GB.bb (fun hc => ?_) (fun hc => ?_)) | (with_reducible refine CC.d (fun hc => ?_) (fun hc => ?_)) | (with_reducible refine CC.e (fun hc => ?_) (fun hc => ?_)) | (with_reducible refine CC.n (fun hc => ?_) (fun hc => ?_)) | (with_reducible refine CC.mk (fun hc => ?_) (fun hc => ?_)) | (with_reducible refine GB.d (fun hc => ?_) (fun hc => ?_)) | (with_reducible refine GB.e (fun hc => ?_) (fun hc => ?_)) | (with_reducible refine GB.n (fun hc => ?_) (fun hc => ?_)) | (with_reducible refine GB.mk (fun hc => ?_) (fun hc => ?_)) | (with_reducible refine And.intro (by first | omega | decide) ?_) | omega | decide | fail)
  all_goals skip
end Go.Proofs.YtpihmkhmhkopdaaGreatDoor
