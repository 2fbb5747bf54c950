/-
  WALKS of package issuerkey: Make, for the example of the law. Own work.
-/
import Derived.Test.YtpihmkhmhkopdaaGreatDoorV0
import Derived.Test.YtpihmkhmhkopdaaGreatDoorV20
set_option linter.all false
namespace Go.Proofs.YtpihmkhmhkopdaaGreatDoor
open Go Go.Dom Go.Num
set_option maxRecDepth 100000
set_option maxHeartbeats 16000000

def P0 : Par := ⟨[2], [100], [47], [23], [4], [9], [77], [], [4], [9], [20], [2], [30], [3], [20], [15], [15]⟩
def bank : Bytes := [98, 97, 110, 107]
def vs0 : List Bytes := [[2], [3], [2], [7], [5], []]
def K0 : Key := ⟨bank, [77], [], [], [4], [[], []], [], []⟩
def K1 : Key := ⟨bank, [77], [], [64], [4], [[23], [1]], [16], [60]⟩
abbrev row2 : AObj := ⟨0, [.v (.s []), .v (.s [])], false, none⟩
theorem basesO_ok (n nm : Nat) (a b c d e f g : Bytes) : EvA Tryz.prog 14 nm [(n, row2)] [.agg [.v (.s a), .v (.s b), .v (.s c), .v (.s d), .v (.s e), .rs n 0 0 2 1, .v (.s f), .v (.s g)]] (.fn (.func 33) [] [.p nm 0 0]) [(nm, some ⟨0, [.v (.s a), .v (.s b), .v (.s c), .v (.s d), .v (.s e), .rs n 0 0 2 1, .v (.s f), .v (.s g)], false, none⟩)] := by
  refine EvA.w mixed Tryz.call14 Tryz.func14 rfl (by cbv) (by cbv) (obs := [row2]) (args := [.agg [.v (.s a), .v (.s b), .v (.s c), .v (.s d), .v (.s e), .rs 0 0 0 2 1, .v (.s f), .v (.s g)]]) (fs := [none]) (j := some 1000) (nw := some ⟨0, [.v (.s a), .v (.s b), .v (.s c), .v (.s d), .v (.s e), .rs 0 0 0 2 1, .v (.s f), .v (.s g)], false, none⟩) (v := .fn (.func 33) [] [.p 1 0 0]) (ns := [n]) (obsA := [row2]) rfl ?_ (by simp) (by simp) rfl (by simp [mapO, AObj.ren, AV.ren, AV.ren.renL]) (by simp [mapO, AV.ren, AV.ren.renL, ixOf]) (by simp [AV.ren, AV.ren.renL, bkOf]) (by simp [upsOf, outs, AObj.ren, AV.ren, AV.ren.renL, bkOf])
  simp only [go_sem, seval]
  repeat' (first | (simp only [go_sem, seval, Bool.not_true, Bool.not_false , true_or, or_true, false_or, or_false, Option.some.injEq, RetA, resLA, outV, outC, outO, viewC, hfV, foV, finH, finN, mkResA, mapO_outC_bcells, AV.ren, AV.ren.renL, renL_bcells]) | (simp (disch := omega) only [IntWalk.i64_in, IntWalk.u64_in]) | (with_reducible refine CC.T (by assumption) ?_) | (with_reducible refine CC.F (by assumption) ?_) | (with_reducible refine CC.bT (by assumption) ?_) | (with_reducible refine CC.bF (by assumption) ?_) | (with_reducible refine GB.T (by assumption) ?_) | (with_reducible refine GB.F (by assumption) ?_) | (with_reducible refine GB.bT (by assumption) ?_) | (with_reducible refine GB.bF (by assumption) ?_) | (with_reducible refine CC.dT (by omega) ?_) | (with_reducible refine CC.dF (by omega) ?_) | (with_reducible refine CC.eT (by omega) ?_) | (with_reducible refine CC.eF (by omega) ?_) | (with_reducible refine GB.dT (by omega) ?_) | (with_reducible refine GB.dF (by omega) ?_) | (with_reducible refine GB.eT (by omega) ?_) | (with_reducible refine GB.eF (by omega) ?_) | (with_reducible refine CC.nT (by omega) ?_) | (with_reducible refine CC.nF (by omega) ?_) | (with_reducible refine CC.bb (fun hc => ?_) (fun hc => ?_)) | (with_reducible refine GB.bb (fun hc => ?_) (fun hc => ?_)) | (with_reducible refine CC.d (fun hc => ?_) (fun hc => ?_)) | (with_reducible refine CC.e (fun hc => ?_) (fun hc => ?_)) | (with_reducible refine CC.n (fun hc => ?_) (fun hc => ?_)) | (with_reducible refine CC.mk (fun hc => ?_) (fun hc => ?_)) | (with_reducible refine GB.d (fun hc => ?_) (fun hc => ?_)) | (with_reducible refine GB.e (fun hc => ?_) (fun hc => ?_)) | (with_reducible refine GB.n (fun hc => ?_) (fun hc => ?_)) | (with_reducible refine GB.mk (fun hc => ?_) (fun hc => ?_)) | (with_reducible refine And.intro (by first | omega | decide) ?_) | omega | decide | fail)
  all_goals skip
theorem P0_ok : EvP Tryz.prog 25 [P0.pv] (E 0) := by
  have h := parGood P0 (by decide) (by unfold Par.short; decide)
  rwa [show parE P0 = 0 by decide +kernel] at h
theorem sq0_ok : EvP Tryz.prog 42 [G [77] [], T vs0 [] 0] (.tup [.s [4], T vs0 [] 1, E 0]) := Square_ok (m := [77]) (by decide) (vs := vs0) [] (i := 0) (by decide) (by decide) (by decide) (by decide +kernel)
theorem gen4_ok : EvP Tryz.prog 15 [G [77] [], G [7] [11], .s [4]] (.tup [.b true, E 0]) := by
  have h := IsGenerator_ok (m := [77]) (by decide) [] [7] [11] [4]
  rwa [show elE [77] [] [7] [11] [4] = 0 by decide +kernel, show genB [7] [11] [4] = true by decide +kernel] at h
theorem ord_ok : EvP Tryz.prog 44 [G [7] [11]] (.tup [.s [15], E 0]) := Order_ok (p := [7]) (q := [11]) (by decide) (by decide) (by decide) (by decide) (by decide) (by decide) (by decide +kernel)
theorem below_ok (i : Nat) (x : Bytes) (hi : i < 6) (hx : vs0.getD i [] = x) (hlt : num x < 15) : EvP Tryz.prog 46 [T vs0 [] (i : Nat), .s [15]] (.tup [.s x, T vs0 [] (i + 1 : Nat), E 0]) := by
  have h := Below_ok (vs := vs0) [] (i := i) (n := [15]) (by decide) (by decide) (by decide) hi (by decide)
  unfold drawR at h
  rw [hx, if_neg (by show ¬ 15 ≤ num x; omega)] at h
  exact h
theorem gcd_ok (x d : Bytes) (hx : validN x = true) (hl : num x < 100) (hd : Nat.gcd (num x) 15 = num d) (vd : validN d = true) : EvP Tryz.prog 48 [.s x, .s [15]] (.tup [.s d, E 0]) := by
  have h := GcdN (a := num x) (b := 15) (by omega) (by decide)
  rw [N_of hx, hd, N_of vd] at h
  exact h
theorem exp_ok (e y : Bytes) (he : validN e = true) (h : 4 ^ num e % 77 = num y) (hy : validN y = true) : EvP Tryz.prog 49 [G [77] [], .s [4], .agg [.b false, .s e]] (.tup [.s y, E 0]) := by
  have g := Exp1_ok (m := [77]) (x := [4]) (by decide) (by decide +kernel) he
  rw [show num ([4] : Bytes) ^ num e % num ([77] : Bytes) = num y from h, N_of hy] at g
  exact g
theorem Make_ok : EvP Tryz.prog 17 [P0.pv, .s bank, G [77] [], G [7] [11], E 0, T vs0 [] 0] (.tup [K1.pv, .sl [.s [3], .s [2], .s [7], .s [5], .s []], T vs0 [] 6, E 0]) := by
  have hP := P0_ok
  have hN : EvP Tryz.prog 26 [.s bank] (.b true) := by
    have h := isName_ok bank (by decide)
    rwa [show nameB bank = true by decide +kernel] at h
  have hR : EvP Tryz.prog 13 [G [77] [], G [7] [11]] (E 0) := by
    have h := rCheck_ok [77] [] [7] [11]
    rwa [show rCheckE [77] [] [7] [11] = 0 by decide +kernel] at h
  have hU := fun n k nm hne => until1_ok n k nm hne sq0_ok gen4_ok
  have hO := ord_ok
  have b1 := below_ok 1 [3] (by decide) rfl (by decide)
  have b2 := below_ok 2 [2] (by decide) rfl (by decide)
  have b3 := below_ok 3 [7] (by decide) rfl (by decide)
  have b4 := below_ok 4 [5] (by decide) rfl (by decide)
  have b5 := below_ok 5 [] (by decide) rfl (by decide)
  have u1 := fun n k nm hne => until2_ok n k nm hne (kd := 0) b1 (gcd_ok [3] [3] (by decide) (by decide) (by decide) (by decide)) rfl
  have u2 := fun n k nm hne => until2_ok n k nm hne (kd := 1) b2 (gcd_ok [2] [1] (by decide) (by decide) (by decide) (by decide)) rfl
  have u3 := fun n k nm hne => until2_ok n k nm hne (kd := 1) b3 (gcd_ok [7] [1] (by decide) (by decide) (by decide) (by decide)) rfl
  have u4 := fun n k nm hne => until2_ok n k nm hne (kd := 0) b4 (gcd_ok [5] [5] (by decide) (by decide) (by decide) (by decide)) rfl
  have u5 := fun n k nm hne => until2_ok n k nm hne (kd := 0) b5 (gcd_ok [] [15] (by decide) (by decide) (by decide) (by decide)) rfl
  have f1 := From_ok (a := [3]) (by decide)
  have f2 := From_ok (a := [2]) (by decide)
  have f3 := From_ok (a := [7]) (by decide)
  have f4 := From_ok (a := [5]) (by decide)
  have f5 := From_ok (a := []) (by decide)
  have e1 := exp_ok [3] [64] (by decide) (by decide) (by decide)
  have e2 := exp_ok [2] [16] (by decide) (by decide) (by decide)
  have e3 := exp_ok [7] [60] (by decide) (by decide) (by decide)
  have e4 := exp_ok [5] [23] (by decide) (by decide) (by decide)
  have e5 := exp_ok [] [1] (by decide) (by decide) (by decide)
  have hit := bases_it K0 (by decide)
  have hbl := bases_len K0
  have hbo := fun n nm => basesO_ok n nm bank [77] [] [] [4] [] []
  have hK : K0.pv = .agg [.s bank, .s [77], .s [], .s [], .s [4], .sl [.s [], .s []], .s [], .s []] := rfl
  have hB : K0.bases = [bas 2 [4], bas 0 [], bas 1 [], bas 1 [], bas 0 [], bas 0 []] := rfl
  rw [hK, hB] at hit
  rw [hB] at hbl
  simp only [show ((1 : Nat) : Int) = 1 from rfl, show ((1 + 1 : Nat) : Int) = 2 from rfl, show ((2 : Nat) : Int) = 2 from rfl, show ((2 + 1 : Nat) : Int) = 3 from rfl, show ((3 : Nat) : Int) = 3 from rfl, show ((3 + 1 : Nat) : Int) = 4 from rfl, show ((4 : Nat) : Int) = 4 from rfl, show ((4 + 1 : Nat) : Int) = 5 from rfl, show ((5 : Nat) : Int) = 5 from rfl, show ((5 + 1 : Nat) : Int) = 6 from rfl] at u1 u2 u3 u4 u5
  unfold P0 Par.pv at *
  simp only at hP
  refine EvP.w mixed Tryz.call17 Tryz.func17 rfl (by cbv) (by cbv) rfl ?_
  simp only [go_sem, seval, Bool.not_true, Bool.not_false]
  repeat' (first | (simp only [go_sem, seval, Bool.not_true, Bool.not_false , List.getD_cons_zero, List.getD_cons_succ, bas]) | (refine CR_pure (hP) rfl ?_) | (refine CR_pure (hN) rfl ?_) | (refine CR_pure (hR) rfl ?_) | (refine CR_eff (hU _ _ _ (by decide)) (by simp [hget]) ?_) | (refine CR_pure (hO) rfl ?_) | (refine CR_eff (hbo _ _) (by simp [hget]) ?_) | (simp (disch := omega) only [IntWalk.i64_in, IntWalk.u64_in]) | (with_reducible refine CC.T (by assumption) ?_) | (with_reducible refine CC.F (by assumption) ?_) | (with_reducible refine CC.bT (by assumption) ?_) | (with_reducible refine CC.bF (by assumption) ?_) | (with_reducible refine GB.T (by assumption) ?_) | (with_reducible refine GB.F (by assumption) ?_) | (with_reducible refine GB.bT (by assumption) ?_) | (with_reducible refine GB.bF (by assumption) ?_) | (with_reducible refine CC.dT (by omega) ?_) | (with_reducible refine CC.dF (by omega) ?_) | (with_reducible refine CC.eT (by omega) ?_) | (with_reducible refine CC.eF (by omega) ?_) | (with_reducible refine GB.dT (by omega) ?_) | (with_reducible refine GB.dF (by omega) ?_) | (with_reducible refine GB.eT (by omega) ?_) | (with_reducible refine GB.eF (by omega) ?_) | (with_reducible refine CC.nT (by omega) ?_) | (with_reducible refine CC.nF (by omega) ?_) | (with_reducible refine CC.bb (fun hc => ?_) (fun hc => ?_)) | (with_reducible refine GB.bb (fun hc => ?_) (fun hc => ?_)) | (with_reducible refine CC.d (fun hc => ?_) (fun hc => ?_)) | (with_reducible refine CC.e (fun hc => ?_) (fun hc => ?_)) | (with_reducible refine CC.n (fun hc => ?_) (fun hc => ?_)) | (with_reducible refine CC.mk (fun hc => ?_) (fun hc => ?_)) | (with_reducible refine GB.d (fun hc => ?_) (fun hc => ?_)) | (with_reducible refine GB.e (fun hc => ?_) (fun hc => ?_)) | (with_reducible refine GB.n (fun hc => ?_) (fun hc => ?_)) | (with_reducible refine GB.mk (fun hc => ?_) (fun hc => ?_)) | (with_reducible refine And.intro (by first | omega | decide) ?_) | omega | decide | fail)
  refine CW_rngO [1067, 1049, 1051] hit rfl (by simp [viewN, tget, hget, SX.ev]) (by simp) (by simp) hbl (by simp [bas, PV.flat]) ?_
  repeat' (first | (simp only [go_sem, seval, Bool.not_true, Bool.not_false , List.getD_cons_zero, List.getD_cons_succ, bas, List.map_cons, List.map_nil]) | (refine rg_cons ?_) | (refine rg_nil ?_) | (refine CR_pure (f1) rfl ?_) | (refine CR_pure (f2) rfl ?_) | (refine CR_pure (f3) rfl ?_) | (refine CR_pure (f4) rfl ?_) | (refine CR_pure (f5) rfl ?_) | (refine CR_pure (e1) rfl ?_) | (refine CR_pure (e2) rfl ?_) | (refine CR_pure (e3) rfl ?_) | (refine CR_pure (e4) rfl ?_) | (refine CR_pure (e5) rfl ?_) | (refine CR_eff (u1 _ _ _ (by decide)) (by simp [hget]) ?_) | (refine CR_eff (u2 _ _ _ (by decide)) (by simp [hget]) ?_) | (refine CR_eff (u3 _ _ _ (by decide)) (by simp [hget]) ?_) | (refine CR_eff (u4 _ _ _ (by decide)) (by simp [hget]) ?_) | (refine CR_eff (u5 _ _ _ (by decide)) (by simp [hget]) ?_) | (simp (disch := omega) only [IntWalk.i64_in, IntWalk.u64_in]) | (with_reducible refine CC.T (by assumption) ?_) | (with_reducible refine CC.F (by assumption) ?_) | (with_reducible refine CC.bT (by assumption) ?_) | (with_reducible refine CC.bF (by assumption) ?_) | (with_reducible refine GB.T (by assumption) ?_) | (with_reducible refine GB.F (by assumption) ?_) | (with_reducible refine GB.bT (by assumption) ?_) | (with_reducible refine GB.bF (by assumption) ?_) | (with_reducible refine CC.dT (by omega) ?_) | (with_reducible refine CC.dF (by omega) ?_) | (with_reducible refine CC.eT (by omega) ?_) | (with_reducible refine CC.eF (by omega) ?_) | (with_reducible refine GB.dT (by omega) ?_) | (with_reducible refine GB.dF (by omega) ?_) | (with_reducible refine GB.eT (by omega) ?_) | (with_reducible refine GB.eF (by omega) ?_) | (with_reducible refine CC.nT (by omega) ?_) | (with_reducible refine CC.nF (by omega) ?_) | (with_reducible refine CC.bb (fun hc => ?_) (fun hc => ?_)) | (with_reducible refine GB.bb (fun hc => ?_) (fun hc => ?_)) | (with_reducible refine CC.d (fun hc => ?_) (fun hc => ?_)) | (with_reducible refine CC.e (fun hc => ?_) (fun hc => ?_)) | (with_reducible refine CC.n (fun hc => ?_) (fun hc => ?_)) | (with_reducible refine CC.mk (fun hc => ?_) (fun hc => ?_)) | (with_reducible refine GB.d (fun hc => ?_) (fun hc => ?_)) | (with_reducible refine GB.e (fun hc => ?_) (fun hc => ?_)) | (with_reducible refine GB.n (fun hc => ?_) (fun hc => ?_)) | (with_reducible refine GB.mk (fun hc => ?_) (fun hc => ?_)) | (with_reducible refine And.intro (by first | omega | decide) ?_) | omega | decide | fail)
  rfl
end Go.Proofs.YtpihmkhmhkopdaaGreatDoor
