/-
  WALK: the symbol of the program. Own work.
-/
import Derived.Test.YtpihmkhmhkopdaaGreatDoorV0
import Derived.Test.YtpihmkhmhkopdaaGreatDoorV9
import Derived.Test.YtpihmkhmhkopdaaGreatDoorM2
set_option linter.all false
namespace Go.Proofs.YtpihmkhmhkopdaaGreatDoor
open Go Go.Dom Go.Num
set_option maxRecDepth 100000
set_option maxHeartbeats 4000000

theorem jac_even {a n : Nat} {s : Int} (h0 : a ≠ 0) (h2 : a % 2 = 0) : jacF (a + 1) a n s = jacF (a / 2 + 1) (a / 2) n (flip8 n s) := by
  rw [jacF, if_neg h0, if_pos h2]; exact jacF_step (by omega) (by omega)
theorem jac_odd {a n : Nat} {s : Int} (h0 : a ≠ 0) (h2 : a % 2 ≠ 0) : jacF (a + 1) a n s = jacF (n % a + 1) (n % a) a (flip4 a n s) := by
  have : n % a < a := Nat.mod_lt _ (by omega)
  rw [jacF, if_neg h0, if_neg h2]; exact jacF_step (by omega) (by omega)
theorem JacobiN {a n : Nat} (ha : a < 18446744073709551616) (hn : n < 18446744073709551616) (h1 : n % 2 = 1) : EvP Tryz.prog 69 [N a, N n] (.tup [E (jac a n), E 0]) := by
  have hc := fun nm => check1 nm (bts a) (bts n)
  rw [chk1N ha hn (by omega)] at hc
  have l0 := lowN hn
  have h8 : n % 8 % 2 = 1 := by omega
  refine EvP.w mixed Tryz.call69 Tryz.func69 rfl (by cbv) (by cbv) rfl ?_
  simp only [go_sem, seval, Bool.not_true, Bool.not_false , one_eq, two_eq]
  repeat' (first | (simp only [go_sem, seval, Bool.not_true, Bool.not_false , one_eq, two_eq]) | (refine CR_eff (hc _) (by simp) ?_) | (refine CR_pure (l0) rfl ?_) | (refine CR_pure (reducedN ha hn (by omega)) rfl ?_) | (simp (disch := omega) only [IntWalk.i64_in, IntWalk.u64_in]) | (with_reducible refine CC.T (by assumption) ?_) | (with_reducible refine CC.F (by assumption) ?_) | (with_reducible refine CC.bT (by assumption) ?_) | (with_reducible refine CC.bF (by assumption) ?_) | (with_reducible refine GB.T (by assumption) ?_) | (with_reducible refine GB.F (by assumption) ?_) | (with_reducible refine GB.bT (by assumption) ?_) | (with_reducible refine GB.bF (by assumption) ?_) | (with_reducible refine CC.dT (by omega) ?_) | (with_reducible refine CC.dF (by omega) ?_) | (with_reducible refine CC.eT (by omega) ?_) | (with_reducible refine CC.eF (by omega) ?_) | (with_reducible refine GB.dT (by omega) ?_) | (with_reducible refine GB.dF (by omega) ?_) | (with_reducible refine GB.eT (by omega) ?_) | (with_reducible refine GB.eF (by omega) ?_) | (with_reducible refine CC.nT (by omega) ?_) | (with_reducible refine CC.nF (by omega) ?_) | (with_reducible refine CC.bb (fun hc => ?_) (fun hc => ?_)) | (with_reducible refine GB.bb (fun hc => ?_) (fun hc => ?_)) | (with_reducible refine CC.d (fun hc => ?_) (fun hc => ?_)) | (with_reducible refine CC.e (fun hc => ?_) (fun hc => ?_)) | (with_reducible refine CC.n (fun hc => ?_) (fun hc => ?_)) | (with_reducible refine CC.mk (fun hc => ?_) (fun hc => ?_)) | (with_reducible refine GB.d (fun hc => ?_) (fun hc => ?_)) | (with_reducible refine GB.e (fun hc => ?_) (fun hc => ?_)) | (with_reducible refine GB.n (fun hc => ?_) (fun hc => ?_)) | (with_reducible refine GB.mk (fun hc => ?_) (fun hc => ?_)) | (with_reducible refine And.intro (by first | omega | decide) ?_) | omega | decide | fail)
  refine loop_run (α := Nat × Nat × Int) (fun x => x.1) (fun x => ⟨[(0, .v (N x.1)), (1, .v (N x.2.1)), (7, .v (E x.2.2))], [], _⟩) (fun x => x.1 < 18446744073709551616 ∧ x.2.1 < 18446744073709551616 ∧ 0 < x.2.1 ∧ (x.2.2 = 1 ∨ x.2.2 = -1) ∧ jacF (x.1 + 1) x.1 x.2.1 x.2.2 = jac a n) (a % n, n, 1) (fun _ => Nat.le_refl _) ⟨Nat.lt_of_le_of_lt (Nat.mod_le _ _) ha, hn, by show 0 < n; omega, .inl rfl, rfl⟩ ?_ ?_
  · (refine AS.Le.of (by first | decide | omega) ?_ ?_ <;> simp [LeT, LeH, tget, hget, AV.bd, AV.bd.bdL, u8, bd_cellsOf, bcells_bd, icells_bd])
  · rintro ⟨x, y, s⟩ ⟨hx, hy, hy0, hs, hj⟩ R hR
    simp only at hx hy hy0 hs hj
    by_cases hx0 : x = 0
    · subst hx0
      have e := oneF y
      repeat' (first | (simp only [go_sem, seval, Bool.not_true, Bool.not_false , nilT, one_eq, e]) | (simp (disch := omega) only [IntWalk.i64_in, IntWalk.u64_in]) | (with_reducible refine CC.T (by assumption) ?_) | (with_reducible refine CC.F (by assumption) ?_) | (with_reducible refine CC.bT (by assumption) ?_) | (with_reducible refine CC.bF (by assumption) ?_) | (with_reducible refine GB.T (by assumption) ?_) | (with_reducible refine GB.F (by assumption) ?_) | (with_reducible refine GB.bT (by assumption) ?_) | (with_reducible refine GB.bF (by assumption) ?_) | (with_reducible refine CC.dT (by omega) ?_) | (with_reducible refine CC.dF (by omega) ?_) | (with_reducible refine CC.eT (by omega) ?_) | (with_reducible refine CC.eF (by omega) ?_) | (with_reducible refine GB.dT (by omega) ?_) | (with_reducible refine GB.dF (by omega) ?_) | (with_reducible refine GB.eT (by omega) ?_) | (with_reducible refine GB.eF (by omega) ?_) | (with_reducible refine CC.nT (by omega) ?_) | (with_reducible refine CC.nF (by omega) ?_) | (with_reducible refine CC.bb (fun hc => ?_) (fun hc => ?_)) | (with_reducible refine GB.bb (fun hc => ?_) (fun hc => ?_)) | (with_reducible refine CC.d (fun hc => ?_) (fun hc => ?_)) | (with_reducible refine CC.e (fun hc => ?_) (fun hc => ?_)) | (with_reducible refine CC.n (fun hc => ?_) (fun hc => ?_)) | (with_reducible refine CC.mk (fun hc => ?_) (fun hc => ?_)) | (with_reducible refine GB.d (fun hc => ?_) (fun hc => ?_)) | (with_reducible refine GB.e (fun hc => ?_) (fun hc => ?_)) | (with_reducible refine GB.n (fun hc => ?_) (fun hc => ?_)) | (with_reducible refine GB.mk (fun hc => ?_) (fun hc => ?_)) | (with_reducible refine And.intro (by first | omega | decide) ?_) | omega | decide | fail)
      · simp [bts_inj] at hc
        rw [← hj]; simp only [jacF, if_true]; rw [if_neg hc]
      · simp [bts_inj] at hc
        rw [← hj]; simp only [jacF, if_true]; rw [if_pos hc]
    · have e := nilF hx0
      have ly := lowN hy
      repeat' (first | (simp only [go_sem, seval, Bool.not_true, Bool.not_false , e]) | (simp (disch := omega) only [IntWalk.i64_in, IntWalk.u64_in]) | (with_reducible refine CC.T (by assumption) ?_) | (with_reducible refine CC.F (by assumption) ?_) | (with_reducible refine CC.bT (by assumption) ?_) | (with_reducible refine CC.bF (by assumption) ?_) | (with_reducible refine GB.T (by assumption) ?_) | (with_reducible refine GB.F (by assumption) ?_) | (with_reducible refine GB.bT (by assumption) ?_) | (with_reducible refine GB.bF (by assumption) ?_) | (with_reducible refine CC.dT (by omega) ?_) | (with_reducible refine CC.dF (by omega) ?_) | (with_reducible refine CC.eT (by omega) ?_) | (with_reducible refine CC.eF (by omega) ?_) | (with_reducible refine GB.dT (by omega) ?_) | (with_reducible refine GB.dF (by omega) ?_) | (with_reducible refine GB.eT (by omega) ?_) | (with_reducible refine GB.eF (by omega) ?_) | (with_reducible refine CC.nT (by omega) ?_) | (with_reducible refine CC.nF (by omega) ?_) | (with_reducible refine CC.bb (fun hc => ?_) (fun hc => ?_)) | (with_reducible refine GB.bb (fun hc => ?_) (fun hc => ?_)) | (with_reducible refine CC.d (fun hc => ?_) (fun hc => ?_)) | (with_reducible refine CC.e (fun hc => ?_) (fun hc => ?_)) | (with_reducible refine CC.n (fun hc => ?_) (fun hc => ?_)) | (with_reducible refine CC.mk (fun hc => ?_) (fun hc => ?_)) | (with_reducible refine GB.d (fun hc => ?_) (fun hc => ?_)) | (with_reducible refine GB.e (fun hc => ?_) (fun hc => ?_)) | (with_reducible refine GB.n (fun hc => ?_) (fun hc => ?_)) | (with_reducible refine GB.mk (fun hc => ?_) (fun hc => ?_)) | (with_reducible refine And.intro (by first | omega | decide) ?_) | omega | decide | fail)
      refine loop_run (α := Nat × Int) (fun z => z.1) (fun z => ⟨[(0, .v (N z.1)), (1, .v (N y)), (7, .v (E z.2))], [], _⟩) (fun z => z.1 ≤ x ∧ z.1 ≠ 0 ∧ (z.2 = 1 ∨ z.2 = -1) ∧ jacF (z.1 + 1) z.1 y z.2 = jac a n) (x, s) (fun _ => Nat.le_refl _) ⟨Nat.le_refl _, hx0, hs, hj⟩ ?_ ?_
      · (refine AS.Le.of (by first | decide | omega) ?_ ?_ <;> simp [LeT, LeH, tget, hget, AV.bd, AV.bd.bdL, u8, bd_cellsOf, bcells_bd, icells_bd])
      · rintro ⟨z, t⟩ ⟨hz, hz0, ht, hk⟩ R' hR'
        simp only at hz hz0 ht hk
        have lz := lowN (n := z) (by omega)
        have hd := DivModN (a := z) (b := 2) (by omega) (by decide) (by decide)
        have hw : ∀ _ : True, IntKind.i64.wrap (0 - t) = - t := fun _ => by rw [IntWalk.i64_in _ (by omega)]; omega
        have hr := reducedN (a := y) (m := z) hy (by omega) (by omega)
        have hlt : y % z < z := Nat.mod_lt _ (by omega)
        repeat' (first | (simp only [go_sem, seval, Bool.not_true, Bool.not_false , two_eq, hw trivial]) | (refine CR_pure (lz) rfl ?_) | (refine CR_pure (ly) rfl ?_) | (refine CR_pure (hd) rfl ?_) | (refine CR_pure (hr) rfl ?_) | (simp (disch := omega) only [IntWalk.i64_in, IntWalk.u64_in]) | (with_reducible refine CC.T (by assumption) ?_) | (with_reducible refine CC.F (by assumption) ?_) | (with_reducible refine CC.bT (by assumption) ?_) | (with_reducible refine CC.bF (by assumption) ?_) | (with_reducible refine GB.T (by assumption) ?_) | (with_reducible refine GB.F (by assumption) ?_) | (with_reducible refine GB.bT (by assumption) ?_) | (with_reducible refine GB.bF (by assumption) ?_) | (with_reducible refine CC.dT (by omega) ?_) | (with_reducible refine CC.dF (by omega) ?_) | (with_reducible refine CC.eT (by omega) ?_) | (with_reducible refine CC.eF (by omega) ?_) | (with_reducible refine GB.dT (by omega) ?_) | (with_reducible refine GB.dF (by omega) ?_) | (with_reducible refine GB.eT (by omega) ?_) | (with_reducible refine GB.eF (by omega) ?_) | (with_reducible refine CC.nT (by omega) ?_) | (with_reducible refine CC.nF (by omega) ?_) | (with_reducible refine CC.bb (fun hc => ?_) (fun hc => ?_)) | (with_reducible refine GB.bb (fun hc => ?_) (fun hc => ?_)) | (with_reducible refine CC.d (fun hc => ?_) (fun hc => ?_)) | (with_reducible refine CC.e (fun hc => ?_) (fun hc => ?_)) | (with_reducible refine CC.n (fun hc => ?_) (fun hc => ?_)) | (with_reducible refine CC.mk (fun hc => ?_) (fun hc => ?_)) | (with_reducible refine GB.d (fun hc => ?_) (fun hc => ?_)) | (with_reducible refine GB.e (fun hc => ?_) (fun hc => ?_)) | (with_reducible refine GB.n (fun hc => ?_) (fun hc => ?_)) | (with_reducible refine GB.mk (fun hc => ?_) (fun hc => ?_)) | (with_reducible refine And.intro (by first | omega | decide) ?_) | omega | decide | fail)
        · have hf : flip8 y t = -t := by unfold flip8; rw [if_pos (by omega)]
          refine hR' (z / 2, -t) ⟨by show z / 2 ≤ x; omega, by show z / 2 ≠ 0; omega, by show -t = 1 ∨ -t = -1; omega, by rw [← hk, jac_even hz0 (by omega), hf]⟩ (by show z / 2 < z; omega) _ ?_
          (refine AS.Le.of (by first | decide | omega) ?_ ?_ <;> simp [LeT, LeH, tget, hget, AV.bd, AV.bd.bdL, u8, bd_cellsOf, bcells_bd, icells_bd])
        · have hf : flip8 y t = -t := by unfold flip8; rw [if_pos (by omega)]
          refine hR' (z / 2, -t) ⟨by show z / 2 ≤ x; omega, by show z / 2 ≠ 0; omega, by show -t = 1 ∨ -t = -1; omega, by rw [← hk, jac_even hz0 (by omega), hf]⟩ (by show z / 2 < z; omega) _ ?_
          (refine AS.Le.of (by first | decide | omega) ?_ ?_ <;> simp [LeT, LeH, tget, hget, AV.bd, AV.bd.bdL, u8, bd_cellsOf, bcells_bd, icells_bd])
        · have hf : flip8 y t = t := by unfold flip8; rw [if_neg (by omega)]
          refine hR' (z / 2, t) ⟨by show z / 2 ≤ x; omega, by show z / 2 ≠ 0; omega, ht, by rw [← hk, jac_even hz0 (by omega), hf]⟩ (by show z / 2 < z; omega) _ ?_
          (refine AS.Le.of (by first | decide | omega) ?_ ?_ <;> simp [LeT, LeH, tget, hget, AV.bd, AV.bd.bdL, u8, bd_cellsOf, bcells_bd, icells_bd])
        · have hf : flip4 z y t = -t := by unfold flip4; rw [if_pos (by omega)]
          refine hR (y % z, z, -t) ⟨by show y % z < _; omega, by show z < _; omega, by show 0 < z; omega, by show -t = 1 ∨ -t = -1; omega, by rw [← hk, jac_odd hz0 (by omega), hf]⟩ (by show y % z < x; omega) _ ?_
          (refine AS.Le.of (by first | decide | omega) ?_ ?_ <;> simp [LeT, LeH, tget, hget, AV.bd, AV.bd.bdL, u8, bd_cellsOf, bcells_bd, icells_bd])
        · have hf : flip4 z y t = t := by unfold flip4; rw [if_neg (by omega)]
          refine hR (y % z, z, t) ⟨by show y % z < _; omega, by show z < _; omega, by show 0 < z; omega, ht, by rw [← hk, jac_odd hz0 (by omega), hf]⟩ (by show y % z < x; omega) _ ?_
          (refine AS.Le.of (by first | decide | omega) ?_ ?_ <;> simp [LeT, LeH, tget, hget, AV.bd, AV.bd.bdL, u8, bd_cellsOf, bcells_bd, icells_bd])
        · have hf : flip4 z y t = t := by unfold flip4; rw [if_neg (by omega)]
          refine hR (y % z, z, t) ⟨by show y % z < _; omega, by show z < _; omega, by show 0 < z; omega, ht, by rw [← hk, jac_odd hz0 (by omega), hf]⟩ (by show y % z < x; omega) _ ?_
          (refine AS.Le.of (by first | decide | omega) ?_ ?_ <;> simp [LeT, LeH, tget, hget, AV.bd, AV.bd.bdL, u8, bd_cellsOf, bcells_bd, icells_bd])
end Go.Proofs.YtpihmkhmhkopdaaGreatDoor
