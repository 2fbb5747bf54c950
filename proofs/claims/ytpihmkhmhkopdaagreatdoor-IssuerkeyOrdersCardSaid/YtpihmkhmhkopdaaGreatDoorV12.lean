/-
  WALKS of package rsagroup: trapdoors, squares, generators. Own work.
-/
import Derived.Test.YtpihmkhmhkopdaaGreatDoorV0
import Derived.Test.YtpihmkhmhkopdaaGreatDoorV11
set_option linter.all false
namespace Go.Proofs.YtpihmkhmhkopdaaGreatDoor
open Go Go.Dom Go.Num
set_option maxRecDepth 100000
set_option maxHeartbeats 4000000

def safeP (a : Bytes) : Bool := validN a && decide (a.length ≤ 8) && isSafe (num a)
def safeE (p q : Bytes) : Int := if primeE p ≠ 0 then primeE p else if primeE q ≠ 0 then primeE q else if safeP p && safeP q && !(p == q) then 0 else 12
theorem safe_ok (p q : Bytes) : EvP Tryz.prog 32 [G p q] (E (safeE p q)) := by
  have h1 : EvP Tryz.prog 68 [.s p] (.tup [.b (safeP p), E (primeE p)]) := primeSafe p
  have h2 : EvP Tryz.prog 68 [.s q] (.tup [.b (safeP q), E (primeE q)]) := primeSafe q
  generalize hp : safeP p = sp at *
  generalize hq : safeP q = sq at *
  unfold safeE
  rw [hp, hq]
  generalize primeE p = ep at *
  generalize primeE q = eq at *
  refine EvP.w mixed Tryz.call32 Tryz.func32 rfl (by cbv) (by cbv) rfl ?_
  simp only [go_sem, seval, Bool.not_true, Bool.not_false]
  repeat' (first | (simp only [go_sem, seval, Bool.not_true, Bool.not_false]) | (refine CR_pure (primes_ok p q) rfl ?_) | (refine CR_pure (h1) rfl ?_) | (refine CR_pure (h2) rfl ?_) | (refine loop_unroll' ?_) | (simp (disch := omega) only [IntWalk.i64_in, IntWalk.u64_in]) | (with_reducible refine CC.T (by assumption) ?_) | (with_reducible refine CC.F (by assumption) ?_) | (with_reducible refine CC.bT (by assumption) ?_) | (with_reducible refine CC.bF (by assumption) ?_) | (with_reducible refine GB.T (by assumption) ?_) | (with_reducible refine GB.F (by assumption) ?_) | (with_reducible refine GB.bT (by assumption) ?_) | (with_reducible refine GB.bF (by assumption) ?_) | (with_reducible refine CC.dT (by omega) ?_) | (with_reducible refine CC.dF (by omega) ?_) | (with_reducible refine CC.eT (by omega) ?_) | (with_reducible refine CC.eF (by omega) ?_) | (with_reducible refine GB.dT (by omega) ?_) | (with_reducible refine GB.dF (by omega) ?_) | (with_reducible refine GB.eT (by omega) ?_) | (with_reducible refine GB.eF (by omega) ?_) | (with_reducible refine CC.nT (by omega) ?_) | (with_reducible refine CC.nF (by omega) ?_) | (with_reducible refine CC.bb (fun hc => ?_) (fun hc => ?_)) | (with_reducible refine GB.bb (fun hc => ?_) (fun hc => ?_)) | (with_reducible refine CC.d (fun hc => ?_) (fun hc => ?_)) | (with_reducible refine CC.e (fun hc => ?_) (fun hc => ?_)) | (with_reducible refine CC.n (fun hc => ?_) (fun hc => ?_)) | (with_reducible refine CC.mk (fun hc => ?_) (fun hc => ?_)) | (with_reducible refine GB.d (fun hc => ?_) (fun hc => ?_)) | (with_reducible refine GB.e (fun hc => ?_) (fun hc => ?_)) | (with_reducible refine GB.n (fun hc => ?_) (fun hc => ?_)) | (with_reducible refine GB.mk (fun hc => ?_) (fun hc => ?_)) | (with_reducible refine And.intro (by first | omega | decide) ?_) | omega | decide | fail)
  all_goals simp_all
def rCheckE (m o p q : Bytes) : Int := if !(validN m && validN o && validN p && validN q) then 3 else if !goodB m o then 13 else if (mulB p q).2 ≠ 0 ∨ (mulB p q).1 ≠ m then 1 else safeE p q
theorem rCheck_ok (m o p q : Bytes) : EvP Tryz.prog 13 [G m o, G p q] (E (rCheckE m o p q)) := by
  have v1 := natValid m
  have v2 := natValid o
  have v3 := natValid p
  have v4 := natValid q
  have hg := good_ok m o
  have hm := Mul_ok p q
  have hs := safe_ok p q
  unfold rCheckE
  generalize validN m = b1 at *
  generalize validN o = b2 at *
  generalize validN p = b3 at *
  generalize validN q = b4 at *
  generalize goodB m o = b5 at *
  generalize safeE p q = se at *
  generalize mulB p q = mb at *
  obtain ⟨mb1, mb2⟩ := mb
  simp only at hm
  refine EvP.w mixed Tryz.call13 Tryz.func13 rfl (by cbv) (by cbv) rfl ?_
  simp only [go_sem, seval, Bool.not_true, Bool.not_false]
  repeat' (first | (simp only [go_sem, seval, Bool.not_true, Bool.not_false]) | (refine CR_pure (v1) rfl ?_) | (refine CR_pure (v2) rfl ?_) | (refine CR_pure (v3) rfl ?_) | (refine CR_pure (v4) rfl ?_) | (refine CR_pure (hg) rfl ?_) | (refine CR_pure (hm) rfl ?_) | (refine CR_pure (hs) rfl ?_) | (simp (disch := omega) only [IntWalk.i64_in, IntWalk.u64_in]) | (with_reducible refine CC.T (by assumption) ?_) | (with_reducible refine CC.F (by assumption) ?_) | (with_reducible refine CC.bT (by assumption) ?_) | (with_reducible refine CC.bF (by assumption) ?_) | (with_reducible refine GB.T (by assumption) ?_) | (with_reducible refine GB.F (by assumption) ?_) | (with_reducible refine GB.bT (by assumption) ?_) | (with_reducible refine GB.bF (by assumption) ?_) | (with_reducible refine CC.dT (by omega) ?_) | (with_reducible refine CC.dF (by omega) ?_) | (with_reducible refine CC.eT (by omega) ?_) | (with_reducible refine CC.eF (by omega) ?_) | (with_reducible refine GB.dT (by omega) ?_) | (with_reducible refine GB.dF (by omega) ?_) | (with_reducible refine GB.eT (by omega) ?_) | (with_reducible refine GB.eF (by omega) ?_) | (with_reducible refine CC.nT (by omega) ?_) | (with_reducible refine CC.nF (by omega) ?_) | (with_reducible refine CC.bb (fun hc => ?_) (fun hc => ?_)) | (with_reducible refine GB.bb (fun hc => ?_) (fun hc => ?_)) | (with_reducible refine CC.d (fun hc => ?_) (fun hc => ?_)) | (with_reducible refine CC.e (fun hc => ?_) (fun hc => ?_)) | (with_reducible refine CC.n (fun hc => ?_) (fun hc => ?_)) | (with_reducible refine CC.mk (fun hc => ?_) (fun hc => ?_)) | (with_reducible refine GB.d (fun hc => ?_) (fun hc => ?_)) | (with_reducible refine GB.e (fun hc => ?_) (fun hc => ?_)) | (with_reducible refine GB.n (fun hc => ?_) (fun hc => ?_)) | (with_reducible refine GB.mk (fun hc => ?_) (fun hc => ?_)) | (with_reducible refine And.intro (by first | omega | decide) ?_) | omega | decide | fail)
  all_goals simp_all
def elE (m o p q x : Bytes) : Int := if !validN x then 3 else if rCheckE m o p q ≠ 0 then rCheckE m o p q else if !rHas m o x then 13 else 0
theorem element_ok {m : Bytes} (lm : m.length ≤ 8) (o p q x : Bytes) : EvP Tryz.prog 34 [G m o, G p q, .s x] (E (elE m o p q x)) := by
  have v1 := natValid x
  have v2 := rCheck_ok m o p q
  have v3 := rHas_ok lm o x
  unfold elE
  generalize validN x = b1 at *
  generalize rCheckE m o p q = b2 at *
  generalize rHas m o x = b3 at *
  refine EvP.w mixed Tryz.call34 Tryz.func34 rfl (by cbv) (by cbv) rfl ?_
  simp only [go_sem, seval, Bool.not_true, Bool.not_false]
  repeat' (first | (simp only [go_sem, seval, Bool.not_true, Bool.not_false]) | (refine CR_pure (v1) rfl ?_) | (refine CR_pure (v2) rfl ?_) | (refine CR_pure (v3) rfl ?_) | (simp (disch := omega) only [IntWalk.i64_in, IntWalk.u64_in]) | (with_reducible refine CC.T (by assumption) ?_) | (with_reducible refine CC.F (by assumption) ?_) | (with_reducible refine CC.bT (by assumption) ?_) | (with_reducible refine CC.bF (by assumption) ?_) | (with_reducible refine GB.T (by assumption) ?_) | (with_reducible refine GB.F (by assumption) ?_) | (with_reducible refine GB.bT (by assumption) ?_) | (with_reducible refine GB.bF (by assumption) ?_) | (with_reducible refine CC.dT (by omega) ?_) | (with_reducible refine CC.dF (by omega) ?_) | (with_reducible refine CC.eT (by omega) ?_) | (with_reducible refine CC.eF (by omega) ?_) | (with_reducible refine GB.dT (by omega) ?_) | (with_reducible refine GB.dF (by omega) ?_) | (with_reducible refine GB.eT (by omega) ?_) | (with_reducible refine GB.eF (by omega) ?_) | (with_reducible refine CC.nT (by omega) ?_) | (with_reducible refine CC.nF (by omega) ?_) | (with_reducible refine CC.bb (fun hc => ?_) (fun hc => ?_)) | (with_reducible refine GB.bb (fun hc => ?_) (fun hc => ?_)) | (with_reducible refine CC.d (fun hc => ?_) (fun hc => ?_)) | (with_reducible refine CC.e (fun hc => ?_) (fun hc => ?_)) | (with_reducible refine CC.n (fun hc => ?_) (fun hc => ?_)) | (with_reducible refine CC.mk (fun hc => ?_) (fun hc => ?_)) | (with_reducible refine GB.d (fun hc => ?_) (fun hc => ?_)) | (with_reducible refine GB.e (fun hc => ?_) (fun hc => ?_)) | (with_reducible refine GB.n (fun hc => ?_) (fun hc => ?_)) | (with_reducible refine GB.mk (fun hc => ?_) (fun hc => ?_)) | (with_reducible refine And.intro (by first | omega | decide) ?_) | omega | decide | fail)
  all_goals simp_all
/-- What a group with its trapdoor is. -/
structure Trap (m o p q : Bytes) : Prop where
  vm : validN m = true
  vp : validN p = true
  vq : validN q = true
  lp : p.length ≤ 8
  lq : q.length ≤ 8
  o : o = []
  mul : num m = num p * num q
  odd : num m % 2 = 1
  sp : isSafe (num p) = true
  sq : isSafe (num q) = true
  ne : num p ≠ num q
theorem rCheck0 {m o p q : Bytes} (h : rCheckE m o p q = 0) : Trap m o p q := by
  unfold rCheckE at h
  split at h
  · cases h
  · rename_i h1
    simp only [Bool.not_eq_true', Bool.not_eq_false, Bool.and_eq_true] at h1
    obtain ⟨⟨⟨v1, v2⟩, v3⟩, v4⟩ := h1
    split at h
    · cases h
    · rename_i h2
      simp only [Bool.not_eq_true', Bool.not_eq_false] at h2
      split at h
      · cases h
      · rename_i h3
        have h3a : (mulB p q).2 = 0 := Classical.not_not.1 fun g => h3 (.inl g)
        have h3b : (mulB p q).1 = m := Classical.not_not.1 fun g => h3 (.inr g)
        unfold safeE at h
        split at h
        · contradiction
        · split at h
          · contradiction
          · split at h
            · rename_i h4
              simp only [safeP, Bool.and_eq_true, decide_eq_true_eq, Bool.not_eq_true', beq_eq_false_iff_ne] at h4
              obtain ⟨⟨⟨⟨-, lp⟩, sp⟩, ⟨-, lq⟩, sq⟩, ne⟩ := h4
              simp only [goodB, Bool.and_eq_true, decide_eq_true_eq, beq_iff_eq] at h2
              obtain ⟨⟨⟨-, ho⟩, hb⟩, -⟩ := h2
              unfold mulB at h3a h3b
              rw [v3, v4] at h3a h3b
              simp only [Bool.and_self, if_true] at h3a h3b
              split at h3a
              · rename_i h5
                rw [if_pos h5] at h3b
                refine ⟨v1, v3, v4, lp, lq, ho, ?_, ?_, sp, sq, fun e => ne ?_⟩
                · rw [← h3b, num_bts]
                · rw [Nat.testBit_zero] at hb; simpa using hb
                · rw [← bts_of v3, e, bts_of v4]
              · cases h3a
            · cases h
theorem Trap.oddP {m o p q : Bytes} (t : Trap m o p q) : num p % 2 = 1 ∧ num q % 2 = 1 := by
  have h := t.odd
  rw [t.mul, Nat.mul_mod] at h
  have h1 : num p % 2 = 0 ∨ num p % 2 = 1 := by omega
  have h2 : num q % 2 = 0 ∨ num q % 2 = 1 := by omega
  rcases h1 with e1 | e1 <;> rcases h2 with e2 | e2 <;> simp_all
def sqB (p q x : Bytes) : Bool := decide (jac (num x) (num p) = 1) && decide (jac (num x) (num q) = 1)
theorem square_ok {m o p q x : Bytes} (t : Trap m o p q) (vx : validN x = true) (lx : x.length ≤ 8) : EvP Tryz.prog 35 [G p q, .s x] (.b (sqB p q x)) := by
  obtain ⟨o1, o2⟩ := t.oddP
  have j1 := JacobiN (num8 lx) (num8 t.lp) o1
  have j2 := JacobiN (num8 lx) (num8 t.lq) o2
  rw [N_of vx, N_of t.vp] at j1
  rw [N_of vx, N_of t.vq] at j2
  unfold sqB
  generalize jac (num x) (num p) = a at *
  generalize jac (num x) (num q) = b at *
  refine EvP.w mixed Tryz.call35 Tryz.func35 rfl (by cbv) (by cbv) rfl ?_
  simp only [go_sem, seval, Bool.not_true, Bool.not_false]
  repeat' (first | (simp only [go_sem, seval, Bool.not_true, Bool.not_false]) | (refine CR_pure (primes_ok p q) rfl ?_) | (refine CR_pure (j1) rfl ?_) | (refine CR_pure (j2) rfl ?_) | (refine loop_unroll' ?_) | (simp (disch := omega) only [IntWalk.i64_in, IntWalk.u64_in]) | (with_reducible refine CC.T (by assumption) ?_) | (with_reducible refine CC.F (by assumption) ?_) | (with_reducible refine CC.bT (by assumption) ?_) | (with_reducible refine CC.bF (by assumption) ?_) | (with_reducible refine GB.T (by assumption) ?_) | (with_reducible refine GB.F (by assumption) ?_) | (with_reducible refine GB.bT (by assumption) ?_) | (with_reducible refine GB.bF (by assumption) ?_) | (with_reducible refine CC.dT (by omega) ?_) | (with_reducible refine CC.dF (by omega) ?_) | (with_reducible refine CC.eT (by omega) ?_) | (with_reducible refine CC.eF (by omega) ?_) | (with_reducible refine GB.dT (by omega) ?_) | (with_reducible refine GB.dF (by omega) ?_) | (with_reducible refine GB.eT (by omega) ?_) | (with_reducible refine GB.eF (by omega) ?_) | (with_reducible refine CC.nT (by omega) ?_) | (with_reducible refine CC.nF (by omega) ?_) | (with_reducible refine CC.bb (fun hc => ?_) (fun hc => ?_)) | (with_reducible refine GB.bb (fun hc => ?_) (fun hc => ?_)) | (with_reducible refine CC.d (fun hc => ?_) (fun hc => ?_)) | (with_reducible refine CC.e (fun hc => ?_) (fun hc => ?_)) | (with_reducible refine CC.n (fun hc => ?_) (fun hc => ?_)) | (with_reducible refine CC.mk (fun hc => ?_) (fun hc => ?_)) | (with_reducible refine GB.d (fun hc => ?_) (fun hc => ?_)) | (with_reducible refine GB.e (fun hc => ?_) (fun hc => ?_)) | (with_reducible refine GB.n (fun hc => ?_) (fun hc => ?_)) | (with_reducible refine GB.mk (fun hc => ?_) (fun hc => ?_)) | (with_reducible refine And.intro (by first | omega | decide) ?_) | omega | decide | fail)
  all_goals simp_all
theorem el0 {m o p q x : Bytes} (h : elE m o p q x = 0) : validN x = true ∧ Trap m o p q ∧ rHas m o x = true := by
  unfold elE at h
  split at h
  · cases h
  · rename_i h1
    split at h
    · contradiction
    · rename_i h2
      split at h
      · cases h
      · rename_i h3
        exact ⟨by simpa using h1, rCheck0 (by simpa using h2), by simpa using h3⟩
theorem has_len {m o x : Bytes} (lm : m.length ≤ 8) (h : rHas m o x = true) : x.length ≤ 8 := by
  simp only [rHas, Bool.and_eq_true, decide_eq_true_eq] at h
  obtain ⟨⟨⟨⟨h1, h2⟩, h3⟩, h4⟩, h5⟩ := h
  have := num8 lm
  rw [← bts_of h2]
  exact lN (by omega)
theorem IsSquare_ok {m : Bytes} (lm : m.length ≤ 8) (o p q x : Bytes) : EvP Tryz.prog 16 [G m o, G p q, .s x] (.tup [.b (decide (elE m o p q x = 0) && sqB p q x), E (elE m o p q x)]) := by
  have he := element_ok lm o p q x
  by_cases h0 : elE m o p q x = 0
  · obtain ⟨vx, t, hh⟩ := el0 h0
    have hs := square_ok t vx (has_len lm hh)
    rw [h0] at he ⊢
    refine EvP.w mixed Tryz.call16 Tryz.func16 rfl (by cbv) (by cbv) rfl ?_
    simp only [go_sem, seval, Bool.not_true, Bool.not_false]
    repeat' (first | (simp only [go_sem, seval, Bool.not_true, Bool.not_false]) | (refine CR_pure (he) rfl ?_) | (refine CR_pure (hs) rfl ?_) | (simp (disch := omega) only [IntWalk.i64_in, IntWalk.u64_in]) | (with_reducible refine CC.T (by assumption) ?_) | (with_reducible refine CC.F (by assumption) ?_) | (with_reducible refine CC.bT (by assumption) ?_) | (with_reducible refine CC.bF (by assumption) ?_) | (with_reducible refine GB.T (by assumption) ?_) | (with_reducible refine GB.F (by assumption) ?_) | (with_reducible refine GB.bT (by assumption) ?_) | (with_reducible refine GB.bF (by assumption) ?_) | (with_reducible refine CC.dT (by omega) ?_) | (with_reducible refine CC.dF (by omega) ?_) | (with_reducible refine CC.eT (by omega) ?_) | (with_reducible refine CC.eF (by omega) ?_) | (with_reducible refine GB.dT (by omega) ?_) | (with_reducible refine GB.dF (by omega) ?_) | (with_reducible refine GB.eT (by omega) ?_) | (with_reducible refine GB.eF (by omega) ?_) | (with_reducible refine CC.nT (by omega) ?_) | (with_reducible refine CC.nF (by omega) ?_) | (with_reducible refine CC.bb (fun hc => ?_) (fun hc => ?_)) | (with_reducible refine GB.bb (fun hc => ?_) (fun hc => ?_)) | (with_reducible refine CC.d (fun hc => ?_) (fun hc => ?_)) | (with_reducible refine CC.e (fun hc => ?_) (fun hc => ?_)) | (with_reducible refine CC.n (fun hc => ?_) (fun hc => ?_)) | (with_reducible refine CC.mk (fun hc => ?_) (fun hc => ?_)) | (with_reducible refine GB.d (fun hc => ?_) (fun hc => ?_)) | (with_reducible refine GB.e (fun hc => ?_) (fun hc => ?_)) | (with_reducible refine GB.n (fun hc => ?_) (fun hc => ?_)) | (with_reducible refine GB.mk (fun hc => ?_) (fun hc => ?_)) | (with_reducible refine And.intro (by first | omega | decide) ?_) | omega | decide | fail)
    all_goals simp_all
  · generalize elE m o p q x = e at *
    refine EvP.w mixed Tryz.call16 Tryz.func16 rfl (by cbv) (by cbv) rfl ?_
    simp only [go_sem, seval, Bool.not_true, Bool.not_false]
    repeat' (first | (simp only [go_sem, seval, Bool.not_true, Bool.not_false]) | (refine CR_pure (he) rfl ?_) | (simp (disch := omega) only [IntWalk.i64_in, IntWalk.u64_in]) | (with_reducible refine CC.T (by assumption) ?_) | (with_reducible refine CC.F (by assumption) ?_) | (with_reducible refine CC.bT (by assumption) ?_) | (with_reducible refine CC.bF (by assumption) ?_) | (with_reducible refine GB.T (by assumption) ?_) | (with_reducible refine GB.F (by assumption) ?_) | (with_reducible refine GB.bT (by assumption) ?_) | (with_reducible refine GB.bF (by assumption) ?_) | (with_reducible refine CC.dT (by omega) ?_) | (with_reducible refine CC.dF (by omega) ?_) | (with_reducible refine CC.eT (by omega) ?_) | (with_reducible refine CC.eF (by omega) ?_) | (with_reducible refine GB.dT (by omega) ?_) | (with_reducible refine GB.dF (by omega) ?_) | (with_reducible refine GB.eT (by omega) ?_) | (with_reducible refine GB.eF (by omega) ?_) | (with_reducible refine CC.nT (by omega) ?_) | (with_reducible refine CC.nF (by omega) ?_) | (with_reducible refine CC.bb (fun hc => ?_) (fun hc => ?_)) | (with_reducible refine GB.bb (fun hc => ?_) (fun hc => ?_)) | (with_reducible refine CC.d (fun hc => ?_) (fun hc => ?_)) | (with_reducible refine CC.e (fun hc => ?_) (fun hc => ?_)) | (with_reducible refine CC.n (fun hc => ?_) (fun hc => ?_)) | (with_reducible refine CC.mk (fun hc => ?_) (fun hc => ?_)) | (with_reducible refine GB.d (fun hc => ?_) (fun hc => ?_)) | (with_reducible refine GB.e (fun hc => ?_) (fun hc => ?_)) | (with_reducible refine GB.n (fun hc => ?_) (fun hc => ?_)) | (with_reducible refine GB.mk (fun hc => ?_) (fun hc => ?_)) | (with_reducible refine And.intro (by first | omega | decide) ?_) | omega | decide | fail)
    all_goals simp_all
def genB (p q x : Bytes) : Bool := sqB p q x && decide (num x % num p ≠ 1) && decide (num x % num q ≠ 1)
theorem IsGenerator_ok {m : Bytes} (lm : m.length ≤ 8) (o p q x : Bytes) : EvP Tryz.prog 15 [G m o, G p q, .s x] (.tup [.b (decide (elE m o p q x = 0) && genB p q x), E (elE m o p q x)]) := by
  have he := element_ok lm o p q x
  by_cases h0 : elE m o p q x = 0
  · obtain ⟨vx, t, hh⟩ := el0 h0
    have lx := has_len lm hh
    have hs := square_ok t vx lx
    obtain ⟨o1, o2⟩ := t.oddP
    have d1 := DivModN (num8 lx) (num8 t.lp) (by omega)
    have d2 := DivModN (num8 lx) (num8 t.lq) (by omega)
    rw [N_of vx, N_of t.vp] at d1
    rw [N_of vx, N_of t.vq] at d2
    rw [h0] at he ⊢
    unfold genB
    generalize sqB p q x = sb at *
    refine EvP.w mixed Tryz.call15 Tryz.func15 rfl (by cbv) (by cbv) rfl ?_
    simp only [go_sem, seval, Bool.not_true, Bool.not_false]
    repeat' (first | (simp only [go_sem, seval, Bool.not_true, Bool.not_false , btsEq]) | (refine CR_pure (he) rfl ?_) | (refine CR_pure (hs) rfl ?_) | (refine CR_pure (primes_ok p q) rfl ?_) | (refine CR_pure (rone_ok) rfl ?_) | (refine CR_pure (d1) rfl ?_) | (refine CR_pure (d2) rfl ?_) | (refine loop_unroll' ?_) | (simp (disch := omega) only [IntWalk.i64_in, IntWalk.u64_in]) | (with_reducible refine CC.T (by assumption) ?_) | (with_reducible refine CC.F (by assumption) ?_) | (with_reducible refine CC.bT (by assumption) ?_) | (with_reducible refine CC.bF (by assumption) ?_) | (with_reducible refine GB.T (by assumption) ?_) | (with_reducible refine GB.F (by assumption) ?_) | (with_reducible refine GB.bT (by assumption) ?_) | (with_reducible refine GB.bF (by assumption) ?_) | (with_reducible refine CC.dT (by omega) ?_) | (with_reducible refine CC.dF (by omega) ?_) | (with_reducible refine CC.eT (by omega) ?_) | (with_reducible refine CC.eF (by omega) ?_) | (with_reducible refine GB.dT (by omega) ?_) | (with_reducible refine GB.dF (by omega) ?_) | (with_reducible refine GB.eT (by omega) ?_) | (with_reducible refine GB.eF (by omega) ?_) | (with_reducible refine CC.nT (by omega) ?_) | (with_reducible refine CC.nF (by omega) ?_) | (with_reducible refine CC.bb (fun hc => ?_) (fun hc => ?_)) | (with_reducible refine GB.bb (fun hc => ?_) (fun hc => ?_)) | (with_reducible refine CC.d (fun hc => ?_) (fun hc => ?_)) | (with_reducible refine CC.e (fun hc => ?_) (fun hc => ?_)) | (with_reducible refine CC.n (fun hc => ?_) (fun hc => ?_)) | (with_reducible refine CC.mk (fun hc => ?_) (fun hc => ?_)) | (with_reducible refine GB.d (fun hc => ?_) (fun hc => ?_)) | (with_reducible refine GB.e (fun hc => ?_) (fun hc => ?_)) | (with_reducible refine GB.n (fun hc => ?_) (fun hc => ?_)) | (with_reducible refine GB.mk (fun hc => ?_) (fun hc => ?_)) | (with_reducible refine And.intro (by first | omega | decide) ?_) | omega | decide | fail)
    all_goals simp_all
  · generalize elE m o p q x = e at *
    refine EvP.w mixed Tryz.call15 Tryz.func15 rfl (by cbv) (by cbv) rfl ?_
    simp only [go_sem, seval, Bool.not_true, Bool.not_false]
    repeat' (first | (simp only [go_sem, seval, Bool.not_true, Bool.not_false]) | (refine CR_pure (he) rfl ?_) | (simp (disch := omega) only [IntWalk.i64_in, IntWalk.u64_in]) | (with_reducible refine CC.T (by assumption) ?_) | (with_reducible refine CC.F (by assumption) ?_) | (with_reducible refine CC.bT (by assumption) ?_) | (with_reducible refine CC.bF (by assumption) ?_) | (with_reducible refine GB.T (by assumption) ?_) | (with_reducible refine GB.F (by assumption) ?_) | (with_reducible refine GB.bT (by assumption) ?_) | (with_reducible refine GB.bF (by assumption) ?_) | (with_reducible refine CC.dT (by omega) ?_) | (with_reducible refine CC.dF (by omega) ?_) | (with_reducible refine CC.eT (by omega) ?_) | (with_reducible refine CC.eF (by omega) ?_) | (with_reducible refine GB.dT (by omega) ?_) | (with_reducible refine GB.dF (by omega) ?_) | (with_reducible refine GB.eT (by omega) ?_) | (with_reducible refine GB.eF (by omega) ?_) | (with_reducible refine CC.nT (by omega) ?_) | (with_reducible refine CC.nF (by omega) ?_) | (with_reducible refine CC.bb (fun hc => ?_) (fun hc => ?_)) | (with_reducible refine GB.bb (fun hc => ?_) (fun hc => ?_)) | (with_reducible refine CC.d (fun hc => ?_) (fun hc => ?_)) | (with_reducible refine CC.e (fun hc => ?_) (fun hc => ?_)) | (with_reducible refine CC.n (fun hc => ?_) (fun hc => ?_)) | (with_reducible refine CC.mk (fun hc => ?_) (fun hc => ?_)) | (with_reducible refine GB.d (fun hc => ?_) (fun hc => ?_)) | (with_reducible refine GB.e (fun hc => ?_) (fun hc => ?_)) | (with_reducible refine GB.n (fun hc => ?_) (fun hc => ?_)) | (with_reducible refine GB.mk (fun hc => ?_) (fun hc => ?_)) | (with_reducible refine And.intro (by first | omega | decide) ?_) | omega | decide | fail)
    all_goals simp_all
end Go.Proofs.YtpihmkhmhkopdaaGreatDoor
