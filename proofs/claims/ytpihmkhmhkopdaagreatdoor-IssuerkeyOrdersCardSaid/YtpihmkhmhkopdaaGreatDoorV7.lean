/-
  WALKS of package natural: quotients of words, common divisors, binary digits. Own work.
-/
import Derived.Test.YtpihmkhmhkopdaaGreatDoorV0
import Derived.Test.YtpihmkhmhkopdaaGreatDoorV5
import Derived.Test.YtpihmkhmhkopdaaGreatDoorV6
set_option linter.all false
namespace Go.Proofs.YtpihmkhmhkopdaaGreatDoor
open Go Go.Dom
set_option maxRecDepth 100000
set_option maxHeartbeats 4000000

theorem tdivN0 (a b : Nat) : (a : Int).tdiv (b : Int) = ((a / b : Nat) : Int) := rfl
theorem divided_s {a b : Bytes} (ha : validN a = true) (hb : validN b = true) (h0 : 0 < num b) (h : a.length ≤ 8 ∨ num a < num b) : EvP Tryz.prog 70 [.s a, .s b] (.tup [.s (bts (num a / num b)), .s (bts (num a % num b))]) := by
  have hc := compare_ok (canon_of ha) (canon_of hb)
  by_cases hlt : num a < num b
  · have e : cmpN (num a) (num b) = -1 := by simp [cmpN, hlt]
    rw [e] at hc
    have e1 : bts (num a / num b) = [] := by rw [Nat.div_eq_of_lt hlt]; rfl
    have e2 : bts (num a % num b) = a := by rw [Nat.mod_eq_of_lt hlt]; exact bts_of ha
    refine EvP.w mixed Tryz.call70 Tryz.func70 rfl (by cbv) (by cbv) rfl ?_
    simp only [go_sem, seval, Bool.not_true, Bool.not_false]
    repeat' (first | (simp only [go_sem, seval, Bool.not_true, Bool.not_false , e1, e2]) | (refine CR_pure (hc) rfl ?_) | (simp (disch := omega) only [IntWalk.i64_in, IntWalk.u64_in]) | (with_reducible refine CC.T (by assumption) ?_) | (with_reducible refine CC.F (by assumption) ?_) | (with_reducible refine CC.bT (by assumption) ?_) | (with_reducible refine CC.bF (by assumption) ?_) | (with_reducible refine GB.T (by assumption) ?_) | (with_reducible refine GB.F (by assumption) ?_) | (with_reducible refine GB.bT (by assumption) ?_) | (with_reducible refine GB.bF (by assumption) ?_) | (with_reducible refine CC.dT (by omega) ?_) | (with_reducible refine CC.dF (by omega) ?_) | (with_reducible refine CC.eT (by omega) ?_) | (with_reducible refine CC.eF (by omega) ?_) | (with_reducible refine GB.dT (by omega) ?_) | (with_reducible refine GB.dF (by omega) ?_) | (with_reducible refine GB.eT (by omega) ?_) | (with_reducible refine GB.eF (by omega) ?_) | (with_reducible refine CC.nT (by omega) ?_) | (with_reducible refine CC.nF (by omega) ?_) | (with_reducible refine CC.bb (fun hc => ?_) (fun hc => ?_)) | (with_reducible refine GB.bb (fun hc => ?_) (fun hc => ?_)) | (with_reducible refine CC.d (fun hc => ?_) (fun hc => ?_)) | (with_reducible refine CC.e (fun hc => ?_) (fun hc => ?_)) | (with_reducible refine CC.n (fun hc => ?_) (fun hc => ?_)) | (with_reducible refine CC.mk (fun hc => ?_) (fun hc => ?_)) | (with_reducible refine GB.d (fun hc => ?_) (fun hc => ?_)) | (with_reducible refine GB.e (fun hc => ?_) (fun hc => ?_)) | (with_reducible refine GB.n (fun hc => ?_) (fun hc => ?_)) | (with_reducible refine GB.mk (fun hc => ?_) (fun hc => ?_)) | (with_reducible refine And.intro (by first | omega | decide) ?_) | omega | decide | fail)
  · have la : a.length ≤ 8 := h.resolve_right hlt
    have lb : b.length ≤ 8 := by
      rcases Nat.lt_or_ge a.length b.length with g | g
      · have := canon_len_lt (a := a) (canon_of hb) g; omega
      · omega
    have sa := Small_ok a
    have sb := Small_ok b
    rw [ha, Bool.true_and, decide_eq_true la] at sa
    rw [hb, Bool.true_and, decide_eq_true lb] at sb
    have na := num8 la
    have nb := num8 lb
    have hc' : 0 ≤ cmpN (num a) (num b) := by unfold cmpN; split <;> (try split) <;> omega
    have hq : num a / num b < 18446744073709551616 := Nat.lt_of_le_of_lt (Nat.div_le_self _ _) na
    have hr : num a % num b < 18446744073709551616 := Nat.lt_of_le_of_lt (Nat.mod_le _ _) na
    refine EvP.w mixed Tryz.call70 Tryz.func70 rfl (by cbv) (by cbv) rfl ?_
    simp only [go_sem, seval, Bool.not_true, Bool.not_false]
    repeat' (first | (simp only [go_sem, seval, Bool.not_true, Bool.not_false , if_true, uw, Nat.mod_eq_of_lt hq]) | (refine CR_pure (hc) rfl ?_) | (refine CR_pure (sa) rfl ?_) | (refine CR_pure (sb) rfl ?_) | (refine CR_pure (Of_ok _ hq) rfl ?_) | (refine CR_pure (Of_ok _ hr) rfl ?_) | (simp (disch := omega) only [IntWalk.i64_in, IntWalk.u64_in]) | (with_reducible refine CC.T (by assumption) ?_) | (with_reducible refine CC.F (by assumption) ?_) | (with_reducible refine CC.bT (by assumption) ?_) | (with_reducible refine CC.bF (by assumption) ?_) | (with_reducible refine GB.T (by assumption) ?_) | (with_reducible refine GB.F (by assumption) ?_) | (with_reducible refine GB.bT (by assumption) ?_) | (with_reducible refine GB.bF (by assumption) ?_) | (with_reducible refine CC.dT (by omega) ?_) | (with_reducible refine CC.dF (by omega) ?_) | (with_reducible refine CC.eT (by omega) ?_) | (with_reducible refine CC.eF (by omega) ?_) | (with_reducible refine GB.dT (by omega) ?_) | (with_reducible refine GB.dF (by omega) ?_) | (with_reducible refine GB.eT (by omega) ?_) | (with_reducible refine GB.eF (by omega) ?_) | (with_reducible refine CC.nT (by omega) ?_) | (with_reducible refine CC.nF (by omega) ?_) | (with_reducible refine CC.bb (fun hc => ?_) (fun hc => ?_)) | (with_reducible refine GB.bb (fun hc => ?_) (fun hc => ?_)) | (with_reducible refine CC.d (fun hc => ?_) (fun hc => ?_)) | (with_reducible refine CC.e (fun hc => ?_) (fun hc => ?_)) | (with_reducible refine CC.n (fun hc => ?_) (fun hc => ?_)) | (with_reducible refine CC.mk (fun hc => ?_) (fun hc => ?_)) | (with_reducible refine GB.d (fun hc => ?_) (fun hc => ?_)) | (with_reducible refine GB.e (fun hc => ?_) (fun hc => ?_)) | (with_reducible refine GB.n (fun hc => ?_) (fun hc => ?_)) | (with_reducible refine GB.mk (fun hc => ?_) (fun hc => ?_)) | (with_reducible refine And.intro (by first | omega | decide) ?_) | omega | decide | fail)
def divB (a b : Bytes) : Bytes × Bytes × Int := if validN a && validN b then (if b = [] then ([], [], 11) else (bts (num a / num b), bts (num a % num b), 0)) else ([], [], 3)
theorem num_pos {b : Bytes} (h : Canon b) (h0 : b ≠ []) : 0 < num b := Nat.lt_of_lt_of_le (Nat.pow_pos (by decide)) (canon_low h h0)
theorem num_nil {b : Bytes} (h : Canon b) : num b = 0 ↔ b = [] := by
  constructor
  · intro e
    by_cases g : b = []
    · exact g
    · have := num_pos h g; omega
  · intro e; subst e; rfl
theorem DivMod_ok (a b : Bytes) (h : validN a = true → validN b = true → b ≠ [] → a.length ≤ 8 ∨ num a < num b) : EvP Tryz.prog 37 [.s a, .s b] (.tup [.s (divB a b).1, .s (divB a b).2.1, E (divB a b).2.2]) := by
  by_cases hv : validN a = true ∧ validN b = true
  case neg =>
    refine EvP.w mixed Tryz.call37 Tryz.func37 rfl (by cbv) (by cbv) rfl ?_
    simp only [go_sem, seval, Bool.not_true, Bool.not_false]
    repeat' (first | (simp only [go_sem, seval, Bool.not_true, Bool.not_false]) | (refine CR_pure (natValid _) rfl ?_) | (simp (disch := omega) only [IntWalk.i64_in, IntWalk.u64_in]) | (with_reducible refine CC.T (by assumption) ?_) | (with_reducible refine CC.F (by assumption) ?_) | (with_reducible refine CC.bT (by assumption) ?_) | (with_reducible refine CC.bF (by assumption) ?_) | (with_reducible refine GB.T (by assumption) ?_) | (with_reducible refine GB.F (by assumption) ?_) | (with_reducible refine GB.bT (by assumption) ?_) | (with_reducible refine GB.bF (by assumption) ?_) | (with_reducible refine CC.dT (by omega) ?_) | (with_reducible refine CC.dF (by omega) ?_) | (with_reducible refine CC.eT (by omega) ?_) | (with_reducible refine CC.eF (by omega) ?_) | (with_reducible refine GB.dT (by omega) ?_) | (with_reducible refine GB.dF (by omega) ?_) | (with_reducible refine GB.eT (by omega) ?_) | (with_reducible refine GB.eF (by omega) ?_) | (with_reducible refine CC.nT (by omega) ?_) | (with_reducible refine CC.nF (by omega) ?_) | (with_reducible refine CC.bb (fun hc => ?_) (fun hc => ?_)) | (with_reducible refine GB.bb (fun hc => ?_) (fun hc => ?_)) | (with_reducible refine CC.d (fun hc => ?_) (fun hc => ?_)) | (with_reducible refine CC.e (fun hc => ?_) (fun hc => ?_)) | (with_reducible refine CC.n (fun hc => ?_) (fun hc => ?_)) | (with_reducible refine CC.mk (fun hc => ?_) (fun hc => ?_)) | (with_reducible refine GB.d (fun hc => ?_) (fun hc => ?_)) | (with_reducible refine GB.e (fun hc => ?_) (fun hc => ?_)) | (with_reducible refine GB.n (fun hc => ?_) (fun hc => ?_)) | (with_reducible refine GB.mk (fun hc => ?_) (fun hc => ?_)) | (with_reducible refine And.intro (by first | omega | decide) ?_) | omega | decide | fail)
    all_goals simp_all [divB]
  obtain ⟨hva, hvb⟩ := hv
  by_cases hb : b = []
  · subst hb
    refine EvP.w mixed Tryz.call37 Tryz.func37 rfl (by cbv) (by cbv) rfl ?_
    simp only [go_sem, seval, Bool.not_true, Bool.not_false]
    repeat' (first | (simp only [go_sem, seval, Bool.not_true, Bool.not_false]) | (refine CR_pure (natValid _) rfl ?_) | (simp (disch := omega) only [IntWalk.i64_in, IntWalk.u64_in]) | (with_reducible refine CC.T (by assumption) ?_) | (with_reducible refine CC.F (by assumption) ?_) | (with_reducible refine CC.bT (by assumption) ?_) | (with_reducible refine CC.bF (by assumption) ?_) | (with_reducible refine GB.T (by assumption) ?_) | (with_reducible refine GB.F (by assumption) ?_) | (with_reducible refine GB.bT (by assumption) ?_) | (with_reducible refine GB.bF (by assumption) ?_) | (with_reducible refine CC.dT (by omega) ?_) | (with_reducible refine CC.dF (by omega) ?_) | (with_reducible refine CC.eT (by omega) ?_) | (with_reducible refine CC.eF (by omega) ?_) | (with_reducible refine GB.dT (by omega) ?_) | (with_reducible refine GB.dF (by omega) ?_) | (with_reducible refine GB.eT (by omega) ?_) | (with_reducible refine GB.eF (by omega) ?_) | (with_reducible refine CC.nT (by omega) ?_) | (with_reducible refine CC.nF (by omega) ?_) | (with_reducible refine CC.bb (fun hc => ?_) (fun hc => ?_)) | (with_reducible refine GB.bb (fun hc => ?_) (fun hc => ?_)) | (with_reducible refine CC.d (fun hc => ?_) (fun hc => ?_)) | (with_reducible refine CC.e (fun hc => ?_) (fun hc => ?_)) | (with_reducible refine CC.n (fun hc => ?_) (fun hc => ?_)) | (with_reducible refine CC.mk (fun hc => ?_) (fun hc => ?_)) | (with_reducible refine GB.d (fun hc => ?_) (fun hc => ?_)) | (with_reducible refine GB.e (fun hc => ?_) (fun hc => ?_)) | (with_reducible refine GB.n (fun hc => ?_) (fun hc => ?_)) | (with_reducible refine GB.mk (fun hc => ?_) (fun hc => ?_)) | (with_reducible refine And.intro (by first | omega | decide) ?_) | omega | decide | fail)
    all_goals simp_all [divB]
  · have hp := num_pos (canon_of hvb) hb
    refine EvP.w mixed Tryz.call37 Tryz.func37 rfl (by cbv) (by cbv) rfl ?_
    simp only [go_sem, seval, Bool.not_true, Bool.not_false]
    repeat' (first | (simp only [go_sem, seval, Bool.not_true, Bool.not_false]) | (refine CR_pure (natValid _) rfl ?_) | (refine CR_pure (divided_s hva hvb hp (h hva hvb hb)) rfl ?_) | (simp (disch := omega) only [IntWalk.i64_in, IntWalk.u64_in]) | (with_reducible refine CC.T (by assumption) ?_) | (with_reducible refine CC.F (by assumption) ?_) | (with_reducible refine CC.bT (by assumption) ?_) | (with_reducible refine CC.bF (by assumption) ?_) | (with_reducible refine GB.T (by assumption) ?_) | (with_reducible refine GB.F (by assumption) ?_) | (with_reducible refine GB.bT (by assumption) ?_) | (with_reducible refine GB.bF (by assumption) ?_) | (with_reducible refine CC.dT (by omega) ?_) | (with_reducible refine CC.dF (by omega) ?_) | (with_reducible refine CC.eT (by omega) ?_) | (with_reducible refine CC.eF (by omega) ?_) | (with_reducible refine GB.dT (by omega) ?_) | (with_reducible refine GB.dF (by omega) ?_) | (with_reducible refine GB.eT (by omega) ?_) | (with_reducible refine GB.eF (by omega) ?_) | (with_reducible refine CC.nT (by omega) ?_) | (with_reducible refine CC.nF (by omega) ?_) | (with_reducible refine CC.bb (fun hc => ?_) (fun hc => ?_)) | (with_reducible refine GB.bb (fun hc => ?_) (fun hc => ?_)) | (with_reducible refine CC.d (fun hc => ?_) (fun hc => ?_)) | (with_reducible refine CC.e (fun hc => ?_) (fun hc => ?_)) | (with_reducible refine CC.n (fun hc => ?_) (fun hc => ?_)) | (with_reducible refine CC.mk (fun hc => ?_) (fun hc => ?_)) | (with_reducible refine GB.d (fun hc => ?_) (fun hc => ?_)) | (with_reducible refine GB.e (fun hc => ?_) (fun hc => ?_)) | (with_reducible refine GB.n (fun hc => ?_) (fun hc => ?_)) | (with_reducible refine GB.mk (fun hc => ?_) (fun hc => ?_)) | (with_reducible refine And.intro (by first | omega | decide) ?_) | omega | decide | fail)
    all_goals simp_all [divB]
/-- Numbers below 2^64, by their bytes. -/
abbrev N (n : Nat) : PV := .s (bts n)
theorem vN {n : Nat} (h : n < 18446744073709551616) : validN (bts n) = true := valid_bts (Nat.lt_trans h (by decide +kernel))
theorem lN {n : Nat} (h : n < 18446744073709551616) : (bts n).length ≤ 8 := bts_len.2 h
theorem DivModN {a b : Nat} (ha : a < 18446744073709551616) (hb : b < 18446744073709551616) (h0 : 0 < b) : EvP Tryz.prog 37 [N a, N b] (.tup [N (a / b), N (a % b), E 0]) := by
  have := DivMod_ok (bts a) (bts b) (fun _ _ _ => .inl (lN ha))
  have e : bts b ≠ [] := fun h => by rw [bts_nil] at h; omega
  simpa only [divB, vN ha, vN hb, Bool.and_self, if_true, e, if_false, num_bts] using this
theorem dividedN {a b : Nat} (ha : a < 18446744073709551616) (hb : b < 18446744073709551616) (h0 : 0 < b) : EvP Tryz.prog 70 [N a, N b] (.tup [N (a / b), N (a % b)]) := by
  have := divided_s (vN ha) (vN hb) (by rw [num_bts]; exact h0) (.inl (lN ha))
  simpa only [num_bts] using this
theorem nilT : (bts 0 == ([] : Bytes)) = true := rfl
theorem nilF {n : Nat} (h : n ≠ 0) : (bts n == ([] : Bytes)) = false := by
  rw [beq_eq_false_iff_ne]; intro e; exact h (bts_nil.1 e)
theorem btsEq (m n : Nat) : (bts m == bts n) = decide (m = n) := by
  rw [Bool.eq_iff_iff]; simp [bts_inj]
theorem GcdN {a b : Nat} (ha : a < 18446744073709551616) (hb : b < 18446744073709551616) : EvP Tryz.prog 48 [N a, N b] (.tup [N (Nat.gcd a b), E 0]) := by
  have va := natValid (bts a)
  have vb := natValid (bts b)
  rw [vN ha] at va
  rw [vN hb] at vb
  refine EvP.w mixed Tryz.call48 Tryz.func48 rfl (by cbv) (by cbv) rfl ?_
  simp only [go_sem, seval, Bool.not_true, Bool.not_false]
  repeat' (first | (simp only [go_sem, seval, Bool.not_true, Bool.not_false]) | (refine CR_pure (va) rfl ?_) | (refine CR_pure (vb) rfl ?_) | (simp (disch := omega) only [IntWalk.i64_in, IntWalk.u64_in]) | (with_reducible refine CC.T (by assumption) ?_) | (with_reducible refine CC.F (by assumption) ?_) | (with_reducible refine CC.bT (by assumption) ?_) | (with_reducible refine CC.bF (by assumption) ?_) | (with_reducible refine GB.T (by assumption) ?_) | (with_reducible refine GB.F (by assumption) ?_) | (with_reducible refine GB.bT (by assumption) ?_) | (with_reducible refine GB.bF (by assumption) ?_) | (with_reducible refine CC.dT (by omega) ?_) | (with_reducible refine CC.dF (by omega) ?_) | (with_reducible refine CC.eT (by omega) ?_) | (with_reducible refine CC.eF (by omega) ?_) | (with_reducible refine GB.dT (by omega) ?_) | (with_reducible refine GB.dF (by omega) ?_) | (with_reducible refine GB.eT (by omega) ?_) | (with_reducible refine GB.eF (by omega) ?_) | (with_reducible refine CC.nT (by omega) ?_) | (with_reducible refine CC.nF (by omega) ?_) | (with_reducible refine CC.bb (fun hc => ?_) (fun hc => ?_)) | (with_reducible refine GB.bb (fun hc => ?_) (fun hc => ?_)) | (with_reducible refine CC.d (fun hc => ?_) (fun hc => ?_)) | (with_reducible refine CC.e (fun hc => ?_) (fun hc => ?_)) | (with_reducible refine CC.n (fun hc => ?_) (fun hc => ?_)) | (with_reducible refine CC.mk (fun hc => ?_) (fun hc => ?_)) | (with_reducible refine GB.d (fun hc => ?_) (fun hc => ?_)) | (with_reducible refine GB.e (fun hc => ?_) (fun hc => ?_)) | (with_reducible refine GB.n (fun hc => ?_) (fun hc => ?_)) | (with_reducible refine GB.mk (fun hc => ?_) (fun hc => ?_)) | (with_reducible refine And.intro (by first | omega | decide) ?_) | omega | decide | fail)
  refine loop_run (α := Nat × Nat) (fun x => x.2) (fun x => ⟨[(0, .v (N x.1)), (1, .v (N x.2))], [], _⟩) (fun x => x.1 < 18446744073709551616 ∧ x.2 < 18446744073709551616 ∧ Nat.gcd x.1 x.2 = Nat.gcd a b) (a, b) (fun _ => Nat.le_refl _) ⟨ha, hb, rfl⟩ ?_ ?_
  · (refine AS.Le.of (by first | decide | omega) ?_ ?_ <;> simp [LeT, LeH, tget, hget, AV.bd, AV.bd.bdL, u8, bd_cellsOf, bcells_bd, icells_bd])
  · rintro ⟨x, y⟩ ⟨hx, hy, hg⟩ R hR
    simp only at hx hy hg
    by_cases h0 : y = 0
    · subst h0
      repeat' (first | (simp only [go_sem, seval, Bool.not_true, Bool.not_false , nilT]) | (simp (disch := omega) only [IntWalk.i64_in, IntWalk.u64_in]) | (with_reducible refine CC.T (by assumption) ?_) | (with_reducible refine CC.F (by assumption) ?_) | (with_reducible refine CC.bT (by assumption) ?_) | (with_reducible refine CC.bF (by assumption) ?_) | (with_reducible refine GB.T (by assumption) ?_) | (with_reducible refine GB.F (by assumption) ?_) | (with_reducible refine GB.bT (by assumption) ?_) | (with_reducible refine GB.bF (by assumption) ?_) | (with_reducible refine CC.dT (by omega) ?_) | (with_reducible refine CC.dF (by omega) ?_) | (with_reducible refine CC.eT (by omega) ?_) | (with_reducible refine CC.eF (by omega) ?_) | (with_reducible refine GB.dT (by omega) ?_) | (with_reducible refine GB.dF (by omega) ?_) | (with_reducible refine GB.eT (by omega) ?_) | (with_reducible refine GB.eF (by omega) ?_) | (with_reducible refine CC.nT (by omega) ?_) | (with_reducible refine CC.nF (by omega) ?_) | (with_reducible refine CC.bb (fun hc => ?_) (fun hc => ?_)) | (with_reducible refine GB.bb (fun hc => ?_) (fun hc => ?_)) | (with_reducible refine CC.d (fun hc => ?_) (fun hc => ?_)) | (with_reducible refine CC.e (fun hc => ?_) (fun hc => ?_)) | (with_reducible refine CC.n (fun hc => ?_) (fun hc => ?_)) | (with_reducible refine CC.mk (fun hc => ?_) (fun hc => ?_)) | (with_reducible refine GB.d (fun hc => ?_) (fun hc => ?_)) | (with_reducible refine GB.e (fun hc => ?_) (fun hc => ?_)) | (with_reducible refine GB.n (fun hc => ?_) (fun hc => ?_)) | (with_reducible refine GB.mk (fun hc => ?_) (fun hc => ?_)) | (with_reducible refine And.intro (by first | omega | decide) ?_) | omega | decide | fail)
      rw [← hg, Nat.gcd_zero_right]
    · have e := nilF h0
      have hd := dividedN hx hy (by omega)
      repeat' (first | (simp only [go_sem, seval, Bool.not_true, Bool.not_false , e]) | (refine CR_pure (hd) rfl ?_) | (simp (disch := omega) only [IntWalk.i64_in, IntWalk.u64_in]) | (with_reducible refine CC.T (by assumption) ?_) | (with_reducible refine CC.F (by assumption) ?_) | (with_reducible refine CC.bT (by assumption) ?_) | (with_reducible refine CC.bF (by assumption) ?_) | (with_reducible refine GB.T (by assumption) ?_) | (with_reducible refine GB.F (by assumption) ?_) | (with_reducible refine GB.bT (by assumption) ?_) | (with_reducible refine GB.bF (by assumption) ?_) | (with_reducible refine CC.dT (by omega) ?_) | (with_reducible refine CC.dF (by omega) ?_) | (with_reducible refine CC.eT (by omega) ?_) | (with_reducible refine CC.eF (by omega) ?_) | (with_reducible refine GB.dT (by omega) ?_) | (with_reducible refine GB.dF (by omega) ?_) | (with_reducible refine GB.eT (by omega) ?_) | (with_reducible refine GB.eF (by omega) ?_) | (with_reducible refine CC.nT (by omega) ?_) | (with_reducible refine CC.nF (by omega) ?_) | (with_reducible refine CC.bb (fun hc => ?_) (fun hc => ?_)) | (with_reducible refine GB.bb (fun hc => ?_) (fun hc => ?_)) | (with_reducible refine CC.d (fun hc => ?_) (fun hc => ?_)) | (with_reducible refine CC.e (fun hc => ?_) (fun hc => ?_)) | (with_reducible refine CC.n (fun hc => ?_) (fun hc => ?_)) | (with_reducible refine CC.mk (fun hc => ?_) (fun hc => ?_)) | (with_reducible refine GB.d (fun hc => ?_) (fun hc => ?_)) | (with_reducible refine GB.e (fun hc => ?_) (fun hc => ?_)) | (with_reducible refine GB.n (fun hc => ?_) (fun hc => ?_)) | (with_reducible refine GB.mk (fun hc => ?_) (fun hc => ?_)) | (with_reducible refine And.intro (by first | omega | decide) ?_) | omega | decide | fail)
      have hm : x % y < y := Nat.mod_lt _ (by omega)
      refine hR (y, x % y) ⟨hy, by show x % y < _; omega, ?_⟩ hm _ ?_
      · show Nat.gcd y (x % y) = _
        rw [← hg, Nat.gcd_comm x y, Nat.gcd_rec y x, Nat.gcd_comm]
      · (refine AS.Le.of (by first | decide | omega) ?_ ?_ <;> simp [LeT, LeH, tget, hget, AV.bd, AV.bd.bdL, u8, bd_cellsOf, bcells_bd, icells_bd])
theorem nn : (([] : Bytes) == []) = true := rfl
theorem cn (c : UInt8) (r : Bytes) : ((c :: r : Bytes) == []) = false := rfl
/-- Binary digits. -/
def blen (n : Nat) : Nat := if n = 0 then 0 else n.log2 + 1
theorem Bits_ok {a : Bytes} (h : validN a = true) : EvP Tryz.prog 97 [.s a] (E (blen (num a))) := by
  have hv := natValid a
  rw [h] at hv
  cases a with
  | nil =>
    refine EvP.w mixed Tryz.call97 Tryz.func97 rfl (by cbv) (by cbv) rfl ?_
    simp only [go_sem, seval, Bool.not_true, Bool.not_false]
    repeat' (first | (simp only [go_sem, seval, Bool.not_true, Bool.not_false , nn]) | (refine CR_pure (hv) rfl ?_) | (simp (disch := omega) only [IntWalk.i64_in, IntWalk.u64_in]) | (with_reducible refine CC.T (by assumption) ?_) | (with_reducible refine CC.F (by assumption) ?_) | (with_reducible refine CC.bT (by assumption) ?_) | (with_reducible refine CC.bF (by assumption) ?_) | (with_reducible refine GB.T (by assumption) ?_) | (with_reducible refine GB.F (by assumption) ?_) | (with_reducible refine GB.bT (by assumption) ?_) | (with_reducible refine GB.bF (by assumption) ?_) | (with_reducible refine CC.dT (by omega) ?_) | (with_reducible refine CC.dF (by omega) ?_) | (with_reducible refine CC.eT (by omega) ?_) | (with_reducible refine CC.eF (by omega) ?_) | (with_reducible refine GB.dT (by omega) ?_) | (with_reducible refine GB.dF (by omega) ?_) | (with_reducible refine GB.eT (by omega) ?_) | (with_reducible refine GB.eF (by omega) ?_) | (with_reducible refine CC.nT (by omega) ?_) | (with_reducible refine CC.nF (by omega) ?_) | (with_reducible refine CC.bb (fun hc => ?_) (fun hc => ?_)) | (with_reducible refine GB.bb (fun hc => ?_) (fun hc => ?_)) | (with_reducible refine CC.d (fun hc => ?_) (fun hc => ?_)) | (with_reducible refine CC.e (fun hc => ?_) (fun hc => ?_)) | (with_reducible refine CC.n (fun hc => ?_) (fun hc => ?_)) | (with_reducible refine CC.mk (fun hc => ?_) (fun hc => ?_)) | (with_reducible refine GB.d (fun hc => ?_) (fun hc => ?_)) | (with_reducible refine GB.e (fun hc => ?_) (fun hc => ?_)) | (with_reducible refine GB.n (fun hc => ?_) (fun hc => ?_)) | (with_reducible refine GB.mk (fun hc => ?_) (fun hc => ?_)) | (with_reducible refine And.intro (by first | omega | decide) ?_) | omega | decide | fail)
    rfl
  | cons c r =>
    have hc := canon_of h
    have hl := len_of h
    have hp := num_pos hc (by simp)
    have hn : num (c :: r) = c.toNat * 256 ^ r.length + num r := rfl
    have hr := num_lt r
    have hc0 : c ≠ 0 := by rcases hc with e | e; cases e; exact e
    have hct : 0 < c.toNat := by
      rcases Nat.eq_zero_or_pos c.toNat with e | e
      · exact absurd (UInt8.toNat_inj.1 e : c = 0) hc0
      · exact e
    have hcl := c.toNat_lt
    have hb := bitLen_bounds hct (by omega)
    have e256 : 256 ^ r.length = 2 ^ (8 * r.length) := by rw [show 256 = 2 ^ 8 from rfl, ← Nat.pow_mul]
    have key : blen (num (c :: r)) = 8 * r.length + Lib.bitLen c.toNat := by
      unfold blen
      rw [if_neg (by omega)]
      have : (num (c :: r)).log2 = 8 * r.length + Lib.bitLen c.toNat - 1 := by
        rw [Nat.log2_eq_iff (by omega)]
        have a1 : 2 ^ (8 * r.length + Lib.bitLen c.toNat - 1) = 2 ^ (Lib.bitLen c.toNat - 1) * 256 ^ r.length := by rw [e256, ← Nat.pow_add]; congr 1; omega
        have a2 : 2 ^ (8 * r.length + Lib.bitLen c.toNat - 1 + 1) = 2 ^ Lib.bitLen c.toNat * 256 ^ r.length := by rw [e256, ← Nat.pow_add]; congr 1; omega
        rw [a1, a2, hn]
        have b1 := Nat.mul_le_mul_right (256 ^ r.length) hb.2.1
        have b2 := Nat.mul_le_mul_right (256 ^ r.length) (show c.toNat + 1 ≤ 2 ^ Lib.bitLen c.toNat from hb.2.2)
        rw [Nat.add_mul] at b2
        omega
      omega
    have hL := Len8_ok c.toNat (by omega)
    have hbl := bitLen_lt256 (x := c.toNat) (by omega)
    have hl' : r.length ≤ 127 := by simpa using hl
    rw [key]
    clear hb e256 key hn hr hp hc
    refine EvP.w mixed Tryz.call97 Tryz.func97 rfl (by cbv) (by cbv) rfl ?_
    simp only [go_sem, seval, Bool.not_true, Bool.not_false]
    repeat' (first | (simp only [go_sem, seval, Bool.not_true, Bool.not_false , cn]) | (refine CR_pure (hv) rfl ?_) | (refine CR_pure (hL) rfl ?_) | (simp (disch := omega) only [IntWalk.i64_in, IntWalk.u64_in]) | (with_reducible refine CC.T (by assumption) ?_) | (with_reducible refine CC.F (by assumption) ?_) | (with_reducible refine CC.bT (by assumption) ?_) | (with_reducible refine CC.bF (by assumption) ?_) | (with_reducible refine GB.T (by assumption) ?_) | (with_reducible refine GB.F (by assumption) ?_) | (with_reducible refine GB.bT (by assumption) ?_) | (with_reducible refine GB.bF (by assumption) ?_) | (with_reducible refine CC.dT (by omega) ?_) | (with_reducible refine CC.dF (by omega) ?_) | (with_reducible refine CC.eT (by omega) ?_) | (with_reducible refine CC.eF (by omega) ?_) | (with_reducible refine GB.dT (by omega) ?_) | (with_reducible refine GB.dF (by omega) ?_) | (with_reducible refine GB.eT (by omega) ?_) | (with_reducible refine GB.eF (by omega) ?_) | (with_reducible refine CC.nT (by omega) ?_) | (with_reducible refine CC.nF (by omega) ?_) | (with_reducible refine CC.bb (fun hc => ?_) (fun hc => ?_)) | (with_reducible refine GB.bb (fun hc => ?_) (fun hc => ?_)) | (with_reducible refine CC.d (fun hc => ?_) (fun hc => ?_)) | (with_reducible refine CC.e (fun hc => ?_) (fun hc => ?_)) | (with_reducible refine CC.n (fun hc => ?_) (fun hc => ?_)) | (with_reducible refine CC.mk (fun hc => ?_) (fun hc => ?_)) | (with_reducible refine GB.d (fun hc => ?_) (fun hc => ?_)) | (with_reducible refine GB.e (fun hc => ?_) (fun hc => ?_)) | (with_reducible refine GB.n (fun hc => ?_) (fun hc => ?_)) | (with_reducible refine GB.mk (fun hc => ?_) (fun hc => ?_)) | (with_reducible refine And.intro (by first | omega | decide) ?_) | omega | decide | fail)
    congr 1; omega
theorem iAndI {a b : Nat} (ha : a < 9223372036854775808) (hb : b < 9223372036854775808) : iAnd .i64 (a : Int) (b : Int) = ((a &&& b : Nat) : Int) := by
  have h1 : a &&& b < 9223372036854775808 := Nat.lt_of_le_of_lt Nat.and_le_left ha
  rw [iAnd, ofIntNat, ofIntNat, BitVec.toNat_and, BitVec.toNat_ofNat, BitVec.toNat_ofNat]
  show IntKind.i64.wrap ((a % 2 ^ 64 &&& b % 2 ^ 64 : Nat) : Int) = _
  rw [Nat.mod_eq_of_lt (by omega), Nat.mod_eq_of_lt (by omega), IntWalk.i64_in _ (by omega)]
theorem Bit_ok {a : Bytes} (h : validN a = true) (i : Nat) (hi : i < 4611686018427387904) : EvP Tryz.prog 62 [.s a, E i] (.b ((num a).testBit i)) := by
  have hv := natValid a
  rw [h] at hv
  have hl := len_of h
  have e0 : (i : Int).tdiv 8 = ((i / 8 : Nat) : Int) := rfl
  have e1 : (i : Int).tmod 8 = ((i % 8 : Nat) : Int) := rfl
  have hd := digit_ok a (i / 8) (by omega)
  have key : (num a).testBit i = decide (num a / 256 ^ (i / 8) % 256 / 2 ^ (i % 8) % 2 = 1) := by
    rw [Nat.testBit_eq_decide_div_mod_eq]
    congr 1
    have e2 : 256 ^ (i / 8) = 2 ^ (8 * (i / 8)) := by rw [show 256 = 2 ^ 8 from rfl, ← Nat.pow_mul]
    have e3 : 2 ^ i = 256 ^ (i / 8) * 2 ^ (i % 8) := by rw [e2, ← Nat.pow_add]; congr 1; omega
    rw [e3, ← Nat.div_div_eq_div_mul]
    generalize num a / 256 ^ (i / 8) = z
    have h8 : i % 8 < 8 := Nat.mod_lt _ (by decide)
    generalize i % 8 = j at h8
    have : 2 ^ j * 2 ^ (8 - j) = 256 := by rw [← Nat.pow_add, show j + (8 - j) = 8 by omega]
    have e5 : z % 256 / 2 ^ j = z / 2 ^ j % 2 ^ (8 - j) := by rw [← this, Nat.mod_mul_right_div_self]
    rw [e5]
    have e6 : 2 ^ (8 - j) = 2 * 2 ^ (7 - j) := by rw [← Nat.pow_succ']; congr 1; omega
    rw [e6, Nat.mod_mul_right_mod]
  obtain ⟨d, hdd⟩ : ∃ d, d = num a / 256 ^ (i / 8) % 256 := ⟨_, rfl⟩
  rw [← hdd] at key hd
  have hdl : d < 256 := by rw [hdd]; exact Nat.mod_lt _ (by decide)
  have hm : ∀ _ : True, (if i % 8 ≤ 64 then i % 8 else 64) = i % 8 := fun _ => by split <;> omega
  have ha : ∀ _ : True, iAnd .i64 ((d / 2 ^ (i % 8) : Nat) : Int) 1 = ((d / 2 ^ (i % 8) % 2 : Nat) : Int) := fun _ => by
    have hle : d / 2 ^ (i % 8) ≤ d := Nat.div_le_self _ _
    have := iAndI (a := d / 2 ^ (i % 8)) (b := 1) (by omega) (by decide)
    rw [Nat.and_one_is_mod] at this; exact this
  have hs : a.length ≤ i / 8 → d = 0 := fun g => by rw [hdd, num_digit0 a g]
  rw [key]
  clear key hdd
  refine EvP.w mixed Tryz.call62 Tryz.func62 rfl (by cbv) (by cbv) rfl ?_
  simp only [go_sem, seval, Bool.not_true, Bool.not_false]
  repeat' (first | (simp only [go_sem, seval, Bool.not_true, Bool.not_false , e0, e1, hm trivial, ha trivial]) | (refine CR_pure (hv) rfl ?_) | (refine CR_pure (hd) rfl ?_) | (simp (disch := omega) only [IntWalk.i64_in, IntWalk.u64_in]) | (with_reducible refine CC.T (by assumption) ?_) | (with_reducible refine CC.F (by assumption) ?_) | (with_reducible refine CC.bT (by assumption) ?_) | (with_reducible refine CC.bF (by assumption) ?_) | (with_reducible refine GB.T (by assumption) ?_) | (with_reducible refine GB.F (by assumption) ?_) | (with_reducible refine GB.bT (by assumption) ?_) | (with_reducible refine GB.bF (by assumption) ?_) | (with_reducible refine CC.dT (by omega) ?_) | (with_reducible refine CC.dF (by omega) ?_) | (with_reducible refine CC.eT (by omega) ?_) | (with_reducible refine CC.eF (by omega) ?_) | (with_reducible refine GB.dT (by omega) ?_) | (with_reducible refine GB.dF (by omega) ?_) | (with_reducible refine GB.eT (by omega) ?_) | (with_reducible refine GB.eF (by omega) ?_) | (with_reducible refine CC.nT (by omega) ?_) | (with_reducible refine CC.nF (by omega) ?_) | (with_reducible refine CC.bb (fun hc => ?_) (fun hc => ?_)) | (with_reducible refine GB.bb (fun hc => ?_) (fun hc => ?_)) | (with_reducible refine CC.d (fun hc => ?_) (fun hc => ?_)) | (with_reducible refine CC.e (fun hc => ?_) (fun hc => ?_)) | (with_reducible refine CC.n (fun hc => ?_) (fun hc => ?_)) | (with_reducible refine CC.mk (fun hc => ?_) (fun hc => ?_)) | (with_reducible refine GB.d (fun hc => ?_) (fun hc => ?_)) | (with_reducible refine GB.e (fun hc => ?_) (fun hc => ?_)) | (with_reducible refine GB.n (fun hc => ?_) (fun hc => ?_)) | (with_reducible refine GB.mk (fun hc => ?_) (fun hc => ?_)) | (with_reducible refine And.intro (by first | omega | decide) ?_) | omega | decide | fail)
  · congr 1
    rw [Bool.eq_iff_iff]; simp only [beq_iff_eq, decide_eq_true_eq]; omega
  · rw [hs (by omega)]; simp
end Go.Proofs.YtpihmkhmhkopdaaGreatDoor
