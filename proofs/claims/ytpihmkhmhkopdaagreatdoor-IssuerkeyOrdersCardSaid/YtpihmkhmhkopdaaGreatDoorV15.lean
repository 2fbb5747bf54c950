/-
  WALKS of package params. Own work.
-/
import Derived.Test.YtpihmkhmhkopdaaGreatDoorV0
import Derived.Test.YtpihmkhmhkopdaaGreatDoorV14
set_option linter.all false
namespace Go.Proofs.YtpihmkhmhkopdaaGreatDoor
open Go Go.Dom Go.Num
set_option maxRecDepth 100000
set_option maxHeartbeats 8000000

/-- Parameters. -/
structure Par where
  (c sl mm mo mg mh wm wo wg wh se at' ha el es bl ma : Bytes)
def Par.pv (p : Par) : PV := .agg [.s p.c, .s p.sl, .s p.mm, .s p.mo, .s p.mg, .s p.mh, .s p.wm, .s p.wo, .s p.wg, .s p.wh, .s p.se, .s p.at', .s p.ha, .s p.el, .s p.es, .s p.bl, .s p.ma]
def Par.nums (p : Par) : List Bytes := [p.c, p.sl, p.se, p.at', p.ha, p.el, p.es, p.bl, p.ma, p.mm, p.mo, p.mg, p.mh, p.wm, p.wo, p.wg, p.wh]
theorem numbers_ok (p : Par) : EvP Tryz.prog 56 [p.pv] (.sl (p.nums.map .s)) := by
  obtain ⟨c, sl, mm, mo, mg, mh, wm, wo, wg, wh, se, at', ha, el, es, bl, ma⟩ := p
  unfold Par.pv Par.nums
  simp only
  refine EvP.w mixed Tryz.call56 Tryz.func56 rfl (by cbv) (by cbv) rfl ?_
  simp only [go_sem, seval, Bool.not_true, Bool.not_false]
  repeat' (first | (simp only [go_sem, seval, Bool.not_true, Bool.not_false , List.getD_cons_zero, List.getD_cons_succ]) | (refine loop_unroll' ?_) | (simp (disch := omega) only [IntWalk.i64_in, IntWalk.u64_in]) | (with_reducible refine CC.T (by assumption) ?_) | (with_reducible refine CC.F (by assumption) ?_) | (with_reducible refine CC.bT (by assumption) ?_) | (with_reducible refine CC.bF (by assumption) ?_) | (with_reducible refine GB.T (by assumption) ?_) | (with_reducible refine GB.F (by assumption) ?_) | (with_reducible refine GB.bT (by assumption) ?_) | (with_reducible refine GB.bF (by assumption) ?_) | (with_reducible refine CC.dT (by omega) ?_) | (with_reducible refine CC.dF (by omega) ?_) | (with_reducible refine CC.eT (by omega) ?_) | (with_reducible refine CC.eF (by omega) ?_) | (with_reducible refine GB.dT (by omega) ?_) | (with_reducible refine GB.dF (by omega) ?_) | (with_reducible refine GB.eT (by omega) ?_) | (with_reducible refine GB.eF (by omega) ?_) | (with_reducible refine CC.nT (by omega) ?_) | (with_reducible refine CC.nF (by omega) ?_) | (with_reducible refine CC.bb (fun hc => ?_) (fun hc => ?_)) | (with_reducible refine GB.bb (fun hc => ?_) (fun hc => ?_)) | (with_reducible refine CC.d (fun hc => ?_) (fun hc => ?_)) | (with_reducible refine CC.e (fun hc => ?_) (fun hc => ?_)) | (with_reducible refine CC.n (fun hc => ?_) (fun hc => ?_)) | (with_reducible refine CC.mk (fun hc => ?_) (fun hc => ?_)) | (with_reducible refine GB.d (fun hc => ?_) (fun hc => ?_)) | (with_reducible refine GB.e (fun hc => ?_) (fun hc => ?_)) | (with_reducible refine GB.n (fun hc => ?_) (fun hc => ?_)) | (with_reducible refine GB.mk (fun hc => ?_) (fun hc => ?_)) | (with_reducible refine And.intro (by first | omega | decide) ?_) | omega | decide | fail)
  rfl
theorem unit_ok {p : Par} (lw : p.wm.length ≤ 8) (x : Bytes) : EvP Tryz.prog 57 [.s x, .pt p.pv 0, .pt (.agg [.s [1]]) 0] (.b (rHas p.wm p.wo x && !(x == [1]))) := by
  have h := rHas_ok lw p.wo x
  unfold Par.pv
  generalize rHas p.wm p.wo x = z at *
  refine EvP.w mixed Tryz.call57 Tryz.func57 rfl (by cbv) (by cbv) rfl ?_
  simp only [go_sem, seval, Bool.not_true, Bool.not_false]
  repeat' (first | (simp only [go_sem, seval, Bool.not_true, Bool.not_false]) | (refine CR_pure (h) rfl ?_) | (simp (disch := omega) only [IntWalk.i64_in, IntWalk.u64_in]) | (with_reducible refine CC.T (by assumption) ?_) | (with_reducible refine CC.F (by assumption) ?_) | (with_reducible refine CC.bT (by assumption) ?_) | (with_reducible refine CC.bF (by assumption) ?_) | (with_reducible refine GB.T (by assumption) ?_) | (with_reducible refine GB.F (by assumption) ?_) | (with_reducible refine GB.bT (by assumption) ?_) | (with_reducible refine GB.bF (by assumption) ?_) | (with_reducible refine CC.dT (by omega) ?_) | (with_reducible refine CC.dF (by omega) ?_) | (with_reducible refine CC.eT (by omega) ?_) | (with_reducible refine CC.eF (by omega) ?_) | (with_reducible refine GB.dT (by omega) ?_) | (with_reducible refine GB.dF (by omega) ?_) | (with_reducible refine GB.eT (by omega) ?_) | (with_reducible refine GB.eF (by omega) ?_) | (with_reducible refine CC.nT (by omega) ?_) | (with_reducible refine CC.nF (by omega) ?_) | (with_reducible refine CC.bb (fun hc => ?_) (fun hc => ?_)) | (with_reducible refine GB.bb (fun hc => ?_) (fun hc => ?_)) | (with_reducible refine CC.d (fun hc => ?_) (fun hc => ?_)) | (with_reducible refine CC.e (fun hc => ?_) (fun hc => ?_)) | (with_reducible refine CC.n (fun hc => ?_) (fun hc => ?_)) | (with_reducible refine CC.mk (fun hc => ?_) (fun hc => ?_)) | (with_reducible refine GB.d (fun hc => ?_) (fun hc => ?_)) | (with_reducible refine GB.e (fun hc => ?_) (fun hc => ?_)) | (with_reducible refine GB.n (fun hc => ?_) (fun hc => ?_)) | (with_reducible refine GB.mk (fun hc => ?_) (fun hc => ?_)) | (with_reducible refine And.intro (by first | omega | decide) ?_) | omega | decide | fail)
  all_goals simp_all
/-- The numbers are short. -/
def Par.short (p : Par) : Prop := ∀ x ∈ p.nums, x.length ≤ 8
def Par.tens (p : Par) : List Bytes := [p.c, p.sl, p.se, p.at', p.ha, p.el, p.es, p.bl, p.ma]
def parE (p : Par) : Int := if p.nums.all validN then
    (if pgE p.mm p.mo ≠ 0 ∨ !(pgHas p.mm p.mo p.mg && !(p.mg == [1])) ∨ !(pgHas p.mm p.mo p.mh && !(p.mh == [1])) ∨ !(rHas p.wm p.wo p.wg && !(p.wg == [1])) ∨ !(rHas p.wm p.wo p.wh && !(p.wh == [1])) then 13
     else if p.tens.any (fun x => decide (num x < 2)) then 2
     else if num p.at' * 8 > num p.mo ∨ num p.c > num p.mo ∨ num p.se > num p.mo then 2 else 0) else 3
theorem cmpLt2 {x : Bytes} (h : validN x = true) : EvP Tryz.prog 61 [.s x, .s [2]] (E (cmpN (num x) 2)) := by
  have := Cmp_ok x [2]
  rwa [h, show validN [2] = true from rfl, show num [2] = 2 from rfl] at this
theorem cmpVV {x y : Bytes} (h : validN x = true) (g : validN y = true) : EvP Tryz.prog 61 [.s x, .s y] (E (cmpN (num x) (num y))) := by
  have := Cmp_ok x y
  rwa [h, g] at this
theorem cmpLtI (a b : Nat) : (cmpN a b < 0) = (a < b) := by rw [eq_iff_iff]; exact cmpN_lt
theorem cmpGtI (a b : Nat) : (cmpN a b > 0) = (b < a) := by
  unfold cmpN; rw [eq_iff_iff]; split <;> (try split) <;> omega
theorem parBad (p : Par) (h : p.nums.all validN = false) : EvP Tryz.prog 25 [p.pv] (E 3) := by
  have hn := numbers_ok p
  obtain ⟨c, sl, mm, mo, mg, mh, wm, wo, wg, wh, se, at', ha, el, es, bl, ma⟩ := p
  unfold Par.pv Par.nums at *
  simp only [List.map_cons, List.map_nil] at *
  refine EvP.w mixed Tryz.call25 Tryz.func25 rfl (by cbv) (by cbv) rfl ?_
  simp only [go_sem, seval, Bool.not_true, Bool.not_false]
  repeat' (first | (simp only [go_sem, seval, Bool.not_true, Bool.not_false , List.getD_cons_zero, List.getD_cons_succ]) | (refine CR_pure (hn) rfl ?_) | (refine CR_pure (natValid _) rfl ?_) | (refine loop_unroll' ?_) | (simp (disch := omega) only [IntWalk.i64_in, IntWalk.u64_in]) | (with_reducible refine CC.T (by assumption) ?_) | (with_reducible refine CC.F (by assumption) ?_) | (with_reducible refine CC.bT (by assumption) ?_) | (with_reducible refine CC.bF (by assumption) ?_) | (with_reducible refine GB.T (by assumption) ?_) | (with_reducible refine GB.F (by assumption) ?_) | (with_reducible refine GB.bT (by assumption) ?_) | (with_reducible refine GB.bF (by assumption) ?_) | (with_reducible refine CC.dT (by omega) ?_) | (with_reducible refine CC.dF (by omega) ?_) | (with_reducible refine CC.eT (by omega) ?_) | (with_reducible refine CC.eF (by omega) ?_) | (with_reducible refine GB.dT (by omega) ?_) | (with_reducible refine GB.dF (by omega) ?_) | (with_reducible refine GB.eT (by omega) ?_) | (with_reducible refine GB.eF (by omega) ?_) | (with_reducible refine CC.nT (by omega) ?_) | (with_reducible refine CC.nF (by omega) ?_) | (with_reducible refine CC.bb (fun hc => ?_) (fun hc => ?_)) | (with_reducible refine GB.bb (fun hc => ?_) (fun hc => ?_)) | (with_reducible refine CC.d (fun hc => ?_) (fun hc => ?_)) | (with_reducible refine CC.e (fun hc => ?_) (fun hc => ?_)) | (with_reducible refine CC.n (fun hc => ?_) (fun hc => ?_)) | (with_reducible refine CC.mk (fun hc => ?_) (fun hc => ?_)) | (with_reducible refine GB.d (fun hc => ?_) (fun hc => ?_)) | (with_reducible refine GB.e (fun hc => ?_) (fun hc => ?_)) | (with_reducible refine GB.n (fun hc => ?_) (fun hc => ?_)) | (with_reducible refine GB.mk (fun hc => ?_) (fun hc => ?_)) | (with_reducible refine And.intro (by first | omega | decide) ?_) | omega | decide | fail)
  exfalso
  simp_all
theorem parGood (p : Par) (h : p.nums.all validN = true) (hs : p.short) : EvP Tryz.prog 25 [p.pv] (E (parE p)) := by
  have hn := numbers_ok p
  have lw : p.wm.length ≤ 8 := hs _ (by simp [Par.nums])
  have lm : p.mm.length ≤ 8 := hs _ (by simp [Par.nums])
  have la : p.at'.length ≤ 8 := hs _ (by simp [Par.nums])
  have u1 := unit_ok lw p.wg
  have u2 := unit_ok lw p.wh
  have c1 := pgCheck_ok p.mm p.mo
  have c2 := pgGen_ok lm p.mo p.mg
  have c3 := pgGen_ok lm p.mo p.mh
  unfold parE
  rw [h]
  generalize (rHas p.wm p.wo p.wg && !(p.wg == [1])) = b1 at *
  generalize (rHas p.wm p.wo p.wh && !(p.wh == [1])) = b2 at *
  generalize (pgHas p.mm p.mo p.mg && !(p.mg == [1])) = b3 at *
  generalize (pgHas p.mm p.mo p.mh && !(p.mh == [1])) = b4 at *
  generalize pgE p.mm p.mo = e1 at *
  clear hs
  obtain ⟨c, sl, mm, mo, mg, mh, wm, wo, wg, wh, se, at', ha, el, es, bl, ma⟩ := p
  unfold Par.pv Par.nums Par.tens at *
  simp only [List.map_cons, List.map_nil, List.all_cons, List.all_nil, Bool.and_eq_true, Bool.and_true] at *
  obtain ⟨h1, h2, h3, h4, h5, h6, h7, h8, h9, h10, h11, h12, h13, h14, h15, h16, h17⟩ := h
  have v1 := natValid c; have v2 := natValid sl; have v3 := natValid se; have v4 := natValid at'; have v5 := natValid ha; have v6 := natValid el; have v7 := natValid es; have v8 := natValid bl; have v9 := natValid ma
  have v10 := natValid mm; have v11 := natValid mo; have v12 := natValid mg; have v13 := natValid mh; have v14 := natValid wm; have v15 := natValid wo; have v16 := natValid wg; have v17 := natValid wh
  rw [h1] at v1; rw [h2] at v2; rw [h3] at v3; rw [h4] at v4; rw [h5] at v5; rw [h6] at v6; rw [h7] at v7; rw [h8] at v8; rw [h9] at v9
  rw [h10] at v10; rw [h11] at v11; rw [h12] at v12; rw [h13] at v13; rw [h14] at v14; rw [h15] at v15; rw [h16] at v16; rw [h17] at v17
  have d1 := cmpLt2 h1; have d2 := cmpLt2 h2; have d3 := cmpLt2 h3; have d4 := cmpLt2 h4; have d5 := cmpLt2 h5; have d6 := cmpLt2 h6; have d7 := cmpLt2 h7; have d8 := cmpLt2 h8; have d9 := cmpLt2 h9
  have hm8 : EvP Tryz.prog 31 [.s at', .s [8]] (.tup [N (num at' * 8), E 0]) := by
    have := Mul_ok at' [8]
    have hl : num at' * 8 < LIM := Nat.lt_of_lt_of_le (show num at' * 8 < 18446744073709551616 * 8 by have := num8 la; omega) (by unfold LIM; decide +kernel)
    simpa only [mulB, h4, show validN [8] = true from rfl, Bool.and_self, if_true, show num [8] = 8 from rfl, hl] using this
  have hv8 : validN (bts (num at' * 8)) = true := valid_bts (Nat.lt_of_lt_of_le (show num at' * 8 < 18446744073709551616 * 8 by have := num8 la; omega) (by decide +kernel))
  have f1 := cmpVV hv8 h11
  rw [num_bts] at f1
  have f2 := cmpVV h1 h11
  have f3 := cmpVV h3 h11
  generalize num at' * 8 = t8 at *
  clear hv8 h1 h2 h3 h4 h5 h6 h7 h8 h9 h10 h11 h12 h13 h14 h15 h16 h17
  refine EvP.w mixed Tryz.call25 Tryz.func25 rfl (by cbv) (by cbv) rfl ?_
  simp only [go_sem, seval, Bool.not_true, Bool.not_false]
  repeat' (first | (simp only [go_sem, seval, Bool.not_true, Bool.not_false , List.getD_cons_zero, List.getD_cons_succ, cmpLtI, cmpGtI]) | (refine CR_pure (hn) rfl ?_) | (refine CR_pure (v1) rfl ?_) | (refine CR_pure (v2) rfl ?_) | (refine CR_pure (v3) rfl ?_) | (refine CR_pure (v4) rfl ?_) | (refine CR_pure (v5) rfl ?_) | (refine CR_pure (v6) rfl ?_) | (refine CR_pure (v7) rfl ?_) | (refine CR_pure (v8) rfl ?_) | (refine CR_pure (v9) rfl ?_) | (refine CR_pure (v10) rfl ?_) | (refine CR_pure (v11) rfl ?_) | (refine CR_pure (v12) rfl ?_) | (refine CR_pure (v13) rfl ?_) | (refine CR_pure (v14) rfl ?_) | (refine CR_pure (v15) rfl ?_) | (refine CR_pure (v16) rfl ?_) | (refine CR_pure (v17) rfl ?_) | (refine CR_pure (Of1) rfl ?_) | (refine CR_pure (Of2) rfl ?_) | (refine CR_pure (Of8) rfl ?_) | (refine CR_pure (c1) rfl ?_) | (refine CR_pure (c2) rfl ?_) | (refine CR_pure (c3) rfl ?_) | (refine CR_view (u1) rfl rfl ?_) | (refine CR_view (u2) rfl rfl ?_) | (refine CR_pure (d1) rfl ?_) | (refine CR_pure (d2) rfl ?_) | (refine CR_pure (d3) rfl ?_) | (refine CR_pure (d4) rfl ?_) | (refine CR_pure (d5) rfl ?_) | (refine CR_pure (d6) rfl ?_) | (refine CR_pure (d7) rfl ?_) | (refine CR_pure (d8) rfl ?_) | (refine CR_pure (d9) rfl ?_) | (refine CR_pure (hm8) rfl ?_) | (refine CR_pure (f1) rfl ?_) | (refine CR_pure (f2) rfl ?_) | (refine CR_pure (f3) rfl ?_) | (refine loop_unroll' ?_) | (simp (disch := omega) only [IntWalk.i64_in, IntWalk.u64_in]) | (with_reducible refine CC.T (by assumption) ?_) | (with_reducible refine CC.F (by assumption) ?_) | (with_reducible refine CC.bT (by assumption) ?_) | (with_reducible refine CC.bF (by assumption) ?_) | (with_reducible refine GB.T (by assumption) ?_) | (with_reducible refine GB.F (by assumption) ?_) | (with_reducible refine GB.bT (by assumption) ?_) | (with_reducible refine GB.bF (by assumption) ?_) | (with_reducible refine CC.dT (by omega) ?_) | (with_reducible refine CC.dF (by omega) ?_) | (with_reducible refine CC.eT (by omega) ?_) | (with_reducible refine CC.eF (by omega) ?_) | (with_reducible refine GB.dT (by omega) ?_) | (with_reducible refine GB.dF (by omega) ?_) | (with_reducible refine GB.eT (by omega) ?_) | (with_reducible refine GB.eF (by omega) ?_) | (with_reducible refine CC.nT (by omega) ?_) | (with_reducible refine CC.nF (by omega) ?_) | (with_reducible refine CC.bb (fun hc => ?_) (fun hc => ?_)) | (with_reducible refine GB.bb (fun hc => ?_) (fun hc => ?_)) | (with_reducible refine CC.d (fun hc => ?_) (fun hc => ?_)) | (with_reducible refine CC.e (fun hc => ?_) (fun hc => ?_)) | (with_reducible refine CC.n (fun hc => ?_) (fun hc => ?_)) | (with_reducible refine CC.mk (fun hc => ?_) (fun hc => ?_)) | (with_reducible refine GB.d (fun hc => ?_) (fun hc => ?_)) | (with_reducible refine GB.e (fun hc => ?_) (fun hc => ?_)) | (with_reducible refine GB.n (fun hc => ?_) (fun hc => ?_)) | (with_reducible refine GB.mk (fun hc => ?_) (fun hc => ?_)) | (with_reducible refine And.intro (by first | omega | decide) ?_) | omega | decide | fail)
  all_goals clear hn u1 u2 c1 c2 c3 v1 v2 v3 v4 v5 v6 v7 v8 v9 v10 v11 v12 v13 v14 v15 v16 v17 d1 d2 d3 d4 d5 d6 d7 d8 d9 hm8 f1 f2 f3
  all_goals first | (simp_all; done) | (simp_all; omega)
end Go.Proofs.YtpihmkhmhkopdaaGreatDoor
