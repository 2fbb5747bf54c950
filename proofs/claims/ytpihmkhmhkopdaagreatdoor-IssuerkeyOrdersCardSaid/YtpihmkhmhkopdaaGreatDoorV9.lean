/-
  WALKS of package modular, where the numbers are words. Own work.
-/
import Derived.Test.YtpihmkhmhkopdaaGreatDoorV0
import Derived.Test.YtpihmkhmhkopdaaGreatDoorV7
import Derived.Test.YtpihmkhmhkopdaaGreatDoorI1
set_option linter.all false
namespace Go.Proofs.YtpihmkhmhkopdaaGreatDoor
open Go Go.Dom
set_option maxRecDepth 100000
set_option maxHeartbeats 4000000

def chkE (l : List Bytes) (m : Bytes) : Int := if l.all validN && validN m then (if m = [] then 11 else 0) else 3
theorem check1 (nm : Nat) (a m : Bytes) : EvA Tryz.prog 54 nm [] [.fs [.s a], .fs [.s m]] (.v (E (chkE [a] m))) [] := by
  refine EvA.w mixed Tryz.call54 Tryz.func54 rfl (by cbv) (by cbv) (obs := []) (args := [.fs [.s a], .fs [.s m]]) (fs := []) (j := none) (nw := none) (v := .v (E (chkE [a] m))) (ns := []) (obsA := []) rfl ?_ (by simp) (by simp) rfl rfl (by simp [mapO, AV.ren]) (by simp [AV.ren]) (by simp [upsOf, outs])
  have va := natValid a
  have vm := natValid m
  simp only [go_sem, seval]
  repeat' (first | (simp only [go_sem, seval, Bool.not_true, Bool.not_false , true_or, or_true, false_or, or_false, Option.some.injEq, RetA, resLA, outV, outC, outO, viewC, hfV, foV, finH, finN, mkResA, mapO_outC_bcells, AV.ren, AV.ren.renL, renL_bcells, List.getD_cons_zero, List.getD_cons_succ]) | (refine CR_pure (va) rfl ?_) | (refine CR_pure (vm) rfl ?_) | (refine loop_unroll' ?_) | (simp (disch := omega) only [IntWalk.i64_in, IntWalk.u64_in]) | (with_reducible refine CC.T (by assumption) ?_) | (with_reducible refine CC.F (by assumption) ?_) | (with_reducible refine CC.bT (by assumption) ?_) | (with_reducible refine CC.bF (by assumption) ?_) | (with_reducible refine GB.T (by assumption) ?_) | (with_reducible refine GB.F (by assumption) ?_) | (with_reducible refine GB.bT (by assumption) ?_) | (with_reducible refine GB.bF (by assumption) ?_) | (with_reducible refine CC.dT (by omega) ?_) | (with_reducible refine CC.dF (by omega) ?_) | (with_reducible refine CC.eT (by omega) ?_) | (with_reducible refine CC.eF (by omega) ?_) | (with_reducible refine GB.dT (by omega) ?_) | (with_reducible refine GB.dF (by omega) ?_) | (with_reducible refine GB.eT (by omega) ?_) | (with_reducible refine GB.eF (by omega) ?_) | (with_reducible refine CC.nT (by omega) ?_) | (with_reducible refine CC.nF (by omega) ?_) | (with_reducible refine CC.bb (fun hc => ?_) (fun hc => ?_)) | (with_reducible refine GB.bb (fun hc => ?_) (fun hc => ?_)) | (with_reducible refine CC.d (fun hc => ?_) (fun hc => ?_)) | (with_reducible refine CC.e (fun hc => ?_) (fun hc => ?_)) | (with_reducible refine CC.n (fun hc => ?_) (fun hc => ?_)) | (with_reducible refine CC.mk (fun hc => ?_) (fun hc => ?_)) | (with_reducible refine GB.d (fun hc => ?_) (fun hc => ?_)) | (with_reducible refine GB.e (fun hc => ?_) (fun hc => ?_)) | (with_reducible refine GB.n (fun hc => ?_) (fun hc => ?_)) | (with_reducible refine GB.mk (fun hc => ?_) (fun hc => ?_)) | (with_reducible refine And.intro (by first | omega | decide) ?_) | omega | decide | fail)
  all_goals simp_all [chkE]
theorem check2 (nm : Nat) (a b m : Bytes) : EvA Tryz.prog 54 nm [] [.fs [.s a, .s b], .fs [.s m]] (.v (E (chkE [a, b] m))) [] := by
  refine EvA.w mixed Tryz.call54 Tryz.func54 rfl (by cbv) (by cbv) (obs := []) (args := [.fs [.s a, .s b], .fs [.s m]]) (fs := []) (j := none) (nw := none) (v := .v (E (chkE [a, b] m))) (ns := []) (obsA := []) rfl ?_ (by simp) (by simp) rfl rfl (by simp [mapO, AV.ren]) (by simp [AV.ren]) (by simp [upsOf, outs])
  have va := natValid a
  have vb := natValid b
  have vm := natValid m
  simp only [go_sem, seval]
  repeat' (first | (simp only [go_sem, seval, Bool.not_true, Bool.not_false , true_or, or_true, false_or, or_false, Option.some.injEq, RetA, resLA, outV, outC, outO, viewC, hfV, foV, finH, finN, mkResA, mapO_outC_bcells, AV.ren, AV.ren.renL, renL_bcells, List.getD_cons_zero, List.getD_cons_succ]) | (refine CR_pure (va) rfl ?_) | (refine CR_pure (vb) rfl ?_) | (refine CR_pure (vm) rfl ?_) | (refine loop_unroll' ?_) | (simp (disch := omega) only [IntWalk.i64_in, IntWalk.u64_in]) | (with_reducible refine CC.T (by assumption) ?_) | (with_reducible refine CC.F (by assumption) ?_) | (with_reducible refine CC.bT (by assumption) ?_) | (with_reducible refine CC.bF (by assumption) ?_) | (with_reducible refine GB.T (by assumption) ?_) | (with_reducible refine GB.F (by assumption) ?_) | (with_reducible refine GB.bT (by assumption) ?_) | (with_reducible refine GB.bF (by assumption) ?_) | (with_reducible refine CC.dT (by omega) ?_) | (with_reducible refine CC.dF (by omega) ?_) | (with_reducible refine CC.eT (by omega) ?_) | (with_reducible refine CC.eF (by omega) ?_) | (with_reducible refine GB.dT (by omega) ?_) | (with_reducible refine GB.dF (by omega) ?_) | (with_reducible refine GB.eT (by omega) ?_) | (with_reducible refine GB.eF (by omega) ?_) | (with_reducible refine CC.nT (by omega) ?_) | (with_reducible refine CC.nF (by omega) ?_) | (with_reducible refine CC.bb (fun hc => ?_) (fun hc => ?_)) | (with_reducible refine GB.bb (fun hc => ?_) (fun hc => ?_)) | (with_reducible refine CC.d (fun hc => ?_) (fun hc => ?_)) | (with_reducible refine CC.e (fun hc => ?_) (fun hc => ?_)) | (with_reducible refine CC.n (fun hc => ?_) (fun hc => ?_)) | (with_reducible refine CC.mk (fun hc => ?_) (fun hc => ?_)) | (with_reducible refine GB.d (fun hc => ?_) (fun hc => ?_)) | (with_reducible refine GB.e (fun hc => ?_) (fun hc => ?_)) | (with_reducible refine GB.n (fun hc => ?_) (fun hc => ?_)) | (with_reducible refine GB.mk (fun hc => ?_) (fun hc => ?_)) | (with_reducible refine And.intro (by first | omega | decide) ?_) | omega | decide | fail)
  all_goals simp_all [chkE]
theorem chk1N {a m : Nat} (ha : a < 18446744073709551616) (hm : m < 18446744073709551616) (h0 : 0 < m) : chkE [bts a] (bts m) = 0 := by
  have : bts m ≠ [] := fun h => by rw [bts_nil] at h; omega
  simp [chkE, vN ha, vN hm, this]
theorem chk2N {a m : Nat} {e : Bytes} (ha : a < 18446744073709551616) (he : validN e = true) (hm : m < 18446744073709551616) (h0 : 0 < m) : chkE [bts a, e] (bts m) = 0 := by
  have : bts m ≠ [] := fun h => by rw [bts_nil] at h; omega
  simp [chkE, vN ha, he, vN hm, this]
theorem SmallN {a : Nat} (h : a < 18446744073709551616) : EvP Tryz.prog 8 [N a] (.tup [.i .u64 a, .b true]) := by
  have := Small_ok (bts a)
  rw [vN h, decide_eq_true (lN h), num_bts] at this
  exact this
theorem timesN {a b m : Nat} (ha : a < 18446744073709551616) (hb : b < 18446744073709551616) (hm : m < 18446744073709551616) (h0 : 0 < m) : EvP Tryz.prog 55 [N a, N b, N m] (N (a * b % m)) := by
  have la := lN ha
  have lb := lN hb
  have lm := lN hm
  have h1 : a % m < 18446744073709551616 := Nat.lt_of_le_of_lt (Nat.mod_le _ _) ha
  have h2 : b % m < 18446744073709551616 := Nat.lt_of_le_of_lt (Nat.mod_le _ _) hb
  have hq := Mul64_ok (a % m) (b % m) h1 h2
  have h3 : a % m * (b % m) / 18446744073709551616 < 18446744073709551616 := (Nat.div_lt_iff_lt_mul (by decide)).2 (Nat.mul_lt_mul'' h1 h2)
  have hr := Rem64_ok (a % m * (b % m) / 18446744073709551616) (a % m * (b % m) % 18446744073709551616) m h0 h3 (Nat.mod_lt _ (by decide)) hm
  have e : a % m * (b % m) / 18446744073709551616 * 18446744073709551616 + a % m * (b % m) % 18446744073709551616 = a % m * (b % m) := by omega
  rw [e, ← Nat.mul_mod] at hr
  have ho := Of_ok (a * b % m) (Nat.lt_trans (Nat.mod_lt _ h0) hm)
  have sa := SmallN ha
  have sb := SmallN hb
  have sm := SmallN hm
  clear h3 e h1 h2
  refine EvP.w mixed Tryz.call55 Tryz.func55 rfl (by cbv) (by cbv) rfl ?_
  simp only [go_sem, seval, Bool.not_true, Bool.not_false]
  repeat' (first | (simp only [go_sem, seval, Bool.not_true, Bool.not_false]) | (refine CR_pure (sa) rfl ?_) | (refine CR_pure (sb) rfl ?_) | (refine CR_pure (sm) rfl ?_) | (refine CR_pure (hq) rfl ?_) | (refine CR_pure (hr) rfl ?_) | (refine CR_pure (ho) rfl ?_) | (simp (disch := omega) only [IntWalk.i64_in, IntWalk.u64_in]) | (with_reducible refine CC.T (by assumption) ?_) | (with_reducible refine CC.F (by assumption) ?_) | (with_reducible refine CC.bT (by assumption) ?_) | (with_reducible refine CC.bF (by assumption) ?_) | (with_reducible refine GB.T (by assumption) ?_) | (with_reducible refine GB.F (by assumption) ?_) | (with_reducible refine GB.bT (by assumption) ?_) | (with_reducible refine GB.bF (by assumption) ?_) | (with_reducible refine CC.dT (by omega) ?_) | (with_reducible refine CC.dF (by omega) ?_) | (with_reducible refine CC.eT (by omega) ?_) | (with_reducible refine CC.eF (by omega) ?_) | (with_reducible refine GB.dT (by omega) ?_) | (with_reducible refine GB.dF (by omega) ?_) | (with_reducible refine GB.eT (by omega) ?_) | (with_reducible refine GB.eF (by omega) ?_) | (with_reducible refine CC.nT (by omega) ?_) | (with_reducible refine CC.nF (by omega) ?_) | (with_reducible refine CC.bb (fun hc => ?_) (fun hc => ?_)) | (with_reducible refine GB.bb (fun hc => ?_) (fun hc => ?_)) | (with_reducible refine CC.d (fun hc => ?_) (fun hc => ?_)) | (with_reducible refine CC.e (fun hc => ?_) (fun hc => ?_)) | (with_reducible refine CC.n (fun hc => ?_) (fun hc => ?_)) | (with_reducible refine CC.mk (fun hc => ?_) (fun hc => ?_)) | (with_reducible refine GB.d (fun hc => ?_) (fun hc => ?_)) | (with_reducible refine GB.e (fun hc => ?_) (fun hc => ?_)) | (with_reducible refine GB.n (fun hc => ?_) (fun hc => ?_)) | (with_reducible refine GB.mk (fun hc => ?_) (fun hc => ?_)) | (with_reducible refine And.intro (by first | omega | decide) ?_) | omega | decide | fail)
theorem reducedN {a m : Nat} (ha : a < 18446744073709551616) (hm : m < 18446744073709551616) (h0 : 0 < m) : EvP Tryz.prog 92 [N a, N m] (N (a % m)) := by
  refine EvP.w mixed Tryz.call92 Tryz.func92 rfl (by cbv) (by cbv) rfl ?_
  simp only [go_sem, seval, Bool.not_true, Bool.not_false]
  repeat' (first | (simp only [go_sem, seval, Bool.not_true, Bool.not_false]) | (refine CR_pure (DivModN ha hm h0) rfl ?_) | (simp (disch := omega) only [IntWalk.i64_in, IntWalk.u64_in]) | (with_reducible refine CC.T (by assumption) ?_) | (with_reducible refine CC.F (by assumption) ?_) | (with_reducible refine CC.bT (by assumption) ?_) | (with_reducible refine CC.bF (by assumption) ?_) | (with_reducible refine GB.T (by assumption) ?_) | (with_reducible refine GB.F (by assumption) ?_) | (with_reducible refine GB.bT (by assumption) ?_) | (with_reducible refine GB.bF (by assumption) ?_) | (with_reducible refine CC.dT (by omega) ?_) | (with_reducible refine CC.dF (by omega) ?_) | (with_reducible refine CC.eT (by omega) ?_) | (with_reducible refine CC.eF (by omega) ?_) | (with_reducible refine GB.dT (by omega) ?_) | (with_reducible refine GB.dF (by omega) ?_) | (with_reducible refine GB.eT (by omega) ?_) | (with_reducible refine GB.eF (by omega) ?_) | (with_reducible refine CC.nT (by omega) ?_) | (with_reducible refine CC.nF (by omega) ?_) | (with_reducible refine CC.bb (fun hc => ?_) (fun hc => ?_)) | (with_reducible refine GB.bb (fun hc => ?_) (fun hc => ?_)) | (with_reducible refine CC.d (fun hc => ?_) (fun hc => ?_)) | (with_reducible refine CC.e (fun hc => ?_) (fun hc => ?_)) | (with_reducible refine CC.n (fun hc => ?_) (fun hc => ?_)) | (with_reducible refine CC.mk (fun hc => ?_) (fun hc => ?_)) | (with_reducible refine GB.d (fun hc => ?_) (fun hc => ?_)) | (with_reducible refine GB.e (fun hc => ?_) (fun hc => ?_)) | (with_reducible refine GB.n (fun hc => ?_) (fun hc => ?_)) | (with_reducible refine GB.mk (fun hc => ?_) (fun hc => ?_)) | (with_reducible refine And.intro (by first | omega | decide) ?_) | omega | decide | fail)
theorem mMulN {a b m : Nat} (ha : a < 18446744073709551616) (hb : b < 18446744073709551616) (hm : m < 18446744073709551616) (h0 : 0 < m) : EvP Tryz.prog 21 [N a, N b, N m] (.tup [N (a * b % m), E 0]) := by
  have hc := fun nm => check2 nm (bts a) (bts b) (bts m)
  rw [chk2N ha (vN hb) hm h0] at hc
  refine EvP.w mixed Tryz.call21 Tryz.func21 rfl (by cbv) (by cbv) rfl ?_
  simp only [go_sem, seval, Bool.not_true, Bool.not_false]
  repeat' (first | (simp only [go_sem, seval, Bool.not_true, Bool.not_false]) | (refine CR_eff (hc _) (by simp) ?_) | (refine CR_pure (timesN ha hb hm h0) rfl ?_) | (simp (disch := omega) only [IntWalk.i64_in, IntWalk.u64_in]) | (with_reducible refine CC.T (by assumption) ?_) | (with_reducible refine CC.F (by assumption) ?_) | (with_reducible refine CC.bT (by assumption) ?_) | (with_reducible refine CC.bF (by assumption) ?_) | (with_reducible refine GB.T (by assumption) ?_) | (with_reducible refine GB.F (by assumption) ?_) | (with_reducible refine GB.bT (by assumption) ?_) | (with_reducible refine GB.bF (by assumption) ?_) | (with_reducible refine CC.dT (by omega) ?_) | (with_reducible refine CC.dF (by omega) ?_) | (with_reducible refine CC.eT (by omega) ?_) | (with_reducible refine CC.eF (by omega) ?_) | (with_reducible refine GB.dT (by omega) ?_) | (with_reducible refine GB.dF (by omega) ?_) | (with_reducible refine GB.eT (by omega) ?_) | (with_reducible refine GB.eF (by omega) ?_) | (with_reducible refine CC.nT (by omega) ?_) | (with_reducible refine CC.nF (by omega) ?_) | (with_reducible refine CC.bb (fun hc => ?_) (fun hc => ?_)) | (with_reducible refine GB.bb (fun hc => ?_) (fun hc => ?_)) | (with_reducible refine CC.d (fun hc => ?_) (fun hc => ?_)) | (with_reducible refine CC.e (fun hc => ?_) (fun hc => ?_)) | (with_reducible refine CC.n (fun hc => ?_) (fun hc => ?_)) | (with_reducible refine CC.mk (fun hc => ?_) (fun hc => ?_)) | (with_reducible refine GB.d (fun hc => ?_) (fun hc => ?_)) | (with_reducible refine GB.e (fun hc => ?_) (fun hc => ?_)) | (with_reducible refine GB.n (fun hc => ?_) (fun hc => ?_)) | (with_reducible refine GB.mk (fun hc => ?_) (fun hc => ?_)) | (with_reducible refine And.intro (by first | omega | decide) ?_) | omega | decide | fail)
theorem digits_ok (e : Bytes) : EvP Tryz.prog 116 [.s e] (.fc 130 [] [.pt (.agg [.s e]) 0]) := by
  refine EvP.w mixed Tryz.call116 Tryz.func116 rfl (by cbv) (by cbv) rfl ?_
  simp only [go_sem, seval, Bool.not_true, Bool.not_false]
  repeat' (first | (simp only [go_sem, seval, Bool.not_true, Bool.not_false]) | (simp (disch := omega) only [IntWalk.i64_in, IntWalk.u64_in]) | (with_reducible refine CC.T (by assumption) ?_) | (with_reducible refine CC.F (by assumption) ?_) | (with_reducible refine CC.bT (by assumption) ?_) | (with_reducible refine CC.bF (by assumption) ?_) | (with_reducible refine GB.T (by assumption) ?_) | (with_reducible refine GB.F (by assumption) ?_) | (with_reducible refine GB.bT (by assumption) ?_) | (with_reducible refine GB.bF (by assumption) ?_) | (with_reducible refine CC.dT (by omega) ?_) | (with_reducible refine CC.dF (by omega) ?_) | (with_reducible refine CC.eT (by omega) ?_) | (with_reducible refine CC.eF (by omega) ?_) | (with_reducible refine GB.dT (by omega) ?_) | (with_reducible refine GB.dF (by omega) ?_) | (with_reducible refine GB.eT (by omega) ?_) | (with_reducible refine GB.eF (by omega) ?_) | (with_reducible refine CC.nT (by omega) ?_) | (with_reducible refine CC.nF (by omega) ?_) | (with_reducible refine CC.bb (fun hc => ?_) (fun hc => ?_)) | (with_reducible refine GB.bb (fun hc => ?_) (fun hc => ?_)) | (with_reducible refine CC.d (fun hc => ?_) (fun hc => ?_)) | (with_reducible refine CC.e (fun hc => ?_) (fun hc => ?_)) | (with_reducible refine CC.n (fun hc => ?_) (fun hc => ?_)) | (with_reducible refine CC.mk (fun hc => ?_) (fun hc => ?_)) | (with_reducible refine GB.d (fun hc => ?_) (fun hc => ?_)) | (with_reducible refine GB.e (fun hc => ?_) (fun hc => ?_)) | (with_reducible refine GB.n (fun hc => ?_) (fun hc => ?_)) | (with_reducible refine GB.mk (fun hc => ?_) (fun hc => ?_)) | (with_reducible refine And.intro (by first | omega | decide) ?_) | omega | decide | fail)
theorem digs_len (n : Nat) : ∀ k, ∀ y ∈ digs n k, y.length = 1
  | 0, y, h => by cases h
  | k + 1, y, h => by
    rcases List.mem_cons.1 h with rfl | h
    · rfl
    · exact digs_len n k y h
theorem one_eq : (.s [1] : PV) = N 1 := rfl
theorem sqMod {a z m : Nat} : a ^ z % m * (a ^ z % m) % m = a ^ (2 * z) % m := by rw [← Nat.mul_mod, ← Nat.pow_add, Nat.two_mul]
theorem sqMod1 {a z m : Nat} : a ^ z % m * (a ^ z % m) % m * (a % m) % m = a ^ (2 * z + 1) % m := by rw [sqMod, ← Nat.mul_mod, ← Nat.pow_succ]
theorem ExpN {a m : Nat} {e : Bytes} (ha : a < 18446744073709551616) (he : validN e = true) (hm : m < 18446744073709551616) (h0 : 0 < m) : EvP Tryz.prog 100 [N a, .s e, N m] (.tup [N (a ^ num e % m), E 0]) := by
  have hc := fun nm => check2 nm (bts a) e (bts m)
  rw [chk2N ha he hm h0] at hc
  have h1 := reducedN (a := 1) (by decide) hm h0
  refine EvP.w mixed Tryz.call100 Tryz.func100 rfl (by cbv) (by cbv) rfl ?_
  simp only [go_sem, seval, Bool.not_true, Bool.not_false , one_eq]
  repeat' (first | (simp only [go_sem, seval, Bool.not_true, Bool.not_false , one_eq]) | (refine CR_eff (hc _) (by simp) ?_) | (refine CR_pure (reducedN ha hm h0) rfl ?_) | (refine CR_pure (h1) rfl ?_) | (refine CR_pure (digits_ok e) rfl ?_) | (refine CW_rng (digits_it e he) rfl (digs_len _ _) ?_) | (simp (disch := omega) only [IntWalk.i64_in, IntWalk.u64_in]) | (with_reducible refine CC.T (by assumption) ?_) | (with_reducible refine CC.F (by assumption) ?_) | (with_reducible refine CC.bT (by assumption) ?_) | (with_reducible refine CC.bF (by assumption) ?_) | (with_reducible refine GB.T (by assumption) ?_) | (with_reducible refine GB.F (by assumption) ?_) | (with_reducible refine GB.bT (by assumption) ?_) | (with_reducible refine GB.bF (by assumption) ?_) | (with_reducible refine CC.dT (by omega) ?_) | (with_reducible refine CC.dF (by omega) ?_) | (with_reducible refine CC.eT (by omega) ?_) | (with_reducible refine CC.eF (by omega) ?_) | (with_reducible refine GB.dT (by omega) ?_) | (with_reducible refine GB.dF (by omega) ?_) | (with_reducible refine GB.eT (by omega) ?_) | (with_reducible refine GB.eF (by omega) ?_) | (with_reducible refine CC.nT (by omega) ?_) | (with_reducible refine CC.nF (by omega) ?_) | (with_reducible refine CC.bb (fun hc => ?_) (fun hc => ?_)) | (with_reducible refine GB.bb (fun hc => ?_) (fun hc => ?_)) | (with_reducible refine CC.d (fun hc => ?_) (fun hc => ?_)) | (with_reducible refine CC.e (fun hc => ?_) (fun hc => ?_)) | (with_reducible refine CC.n (fun hc => ?_) (fun hc => ?_)) | (with_reducible refine CC.mk (fun hc => ?_) (fun hc => ?_)) | (with_reducible refine GB.d (fun hc => ?_) (fun hc => ?_)) | (with_reducible refine GB.e (fun hc => ?_) (fun hc => ?_)) | (with_reducible refine GB.n (fun hc => ?_) (fun hc => ?_)) | (with_reducible refine GB.mk (fun hc => ?_) (fun hc => ?_)) | (with_reducible refine And.intro (by first | omega | decide) ?_) | omega | decide | fail)
  obtain ⟨n, hn⟩ : ∃ n, n = num e := ⟨_, rfl⟩
  rw [← hn]
  have hbl : n / 2 ^ blen n = 0 := by
    refine Nat.div_eq_of_lt ?_
    unfold blen
    split
    · subst_vars; rename_i h; rw [h]; decide
    · rename_i h; exact Nat.lt_log2_self
  refine rg_run (α := Nat) (fun k => ⟨[(3, .p 1000 0 0), (5, .p 1001 0 0), (9, .p 1019 0 0)], [(1000, ⟨0, [.v (N (a % m))], false, none⟩), (1001, ⟨0, [.v (N m)], false, none⟩), (1019, ⟨0, [.v (N (a ^ (n / 2 ^ k) % m))], false, some 22⟩)], _⟩) (fun ys k => ys = digs n k) (blen n) (fun _ => Nat.le_refl _) rfl ?_ ?_ ?_
  · (refine AS.Le.of (by first | decide | omega) ?_ ?_ <;> simp [LeT, LeH, tget, hget, AV.bd, AV.bd.bdL, u8, bd_cellsOf, bcells_bd, icells_bd])
    rw [hbl, Nat.pow_zero]
  · intro k hk
    cases k with
    | succ k => cases hk
    | zero =>
      repeat' (first | (simp only [go_sem, seval, Bool.not_true, Bool.not_false]) | (simp (disch := omega) only [IntWalk.i64_in, IntWalk.u64_in]) | (with_reducible refine CC.T (by assumption) ?_) | (with_reducible refine CC.F (by assumption) ?_) | (with_reducible refine CC.bT (by assumption) ?_) | (with_reducible refine CC.bF (by assumption) ?_) | (with_reducible refine GB.T (by assumption) ?_) | (with_reducible refine GB.F (by assumption) ?_) | (with_reducible refine GB.bT (by assumption) ?_) | (with_reducible refine GB.bF (by assumption) ?_) | (with_reducible refine CC.dT (by omega) ?_) | (with_reducible refine CC.dF (by omega) ?_) | (with_reducible refine CC.eT (by omega) ?_) | (with_reducible refine CC.eF (by omega) ?_) | (with_reducible refine GB.dT (by omega) ?_) | (with_reducible refine GB.dF (by omega) ?_) | (with_reducible refine GB.eT (by omega) ?_) | (with_reducible refine GB.eF (by omega) ?_) | (with_reducible refine CC.nT (by omega) ?_) | (with_reducible refine CC.nF (by omega) ?_) | (with_reducible refine CC.bb (fun hc => ?_) (fun hc => ?_)) | (with_reducible refine GB.bb (fun hc => ?_) (fun hc => ?_)) | (with_reducible refine CC.d (fun hc => ?_) (fun hc => ?_)) | (with_reducible refine CC.e (fun hc => ?_) (fun hc => ?_)) | (with_reducible refine CC.n (fun hc => ?_) (fun hc => ?_)) | (with_reducible refine CC.mk (fun hc => ?_) (fun hc => ?_)) | (with_reducible refine GB.d (fun hc => ?_) (fun hc => ?_)) | (with_reducible refine GB.e (fun hc => ?_) (fun hc => ?_)) | (with_reducible refine GB.n (fun hc => ?_) (fun hc => ?_)) | (with_reducible refine GB.mk (fun hc => ?_) (fun hc => ?_)) | (with_reducible refine And.intro (by first | omega | decide) ?_) | omega | decide | fail)
      rw [Nat.div_one]
  · intro y ys k hk R hR
    cases k with
    | zero => cases hk
    | succ k =>
      simp only [digs, List.cons.injEq] at hk
      obtain ⟨rfl, rfl⟩ := hk
      obtain ⟨x, hx⟩ : ∃ x, x = a ^ (n / 2 ^ (k + 1)) % m := ⟨_, rfl⟩
      have hxm : x < m := by rw [hx]; exact Nat.mod_lt _ h0
      have t1 := timesN (a := x) (b := x) (by omega) (by omega) hm h0
      have hxx : x * x % m < m := Nat.mod_lt _ h0
      have ham : a % m < m := Nat.mod_lt _ h0
      have t2 := timesN (a := x * x % m) (b := a % m) (by omega) (by omega) hm h0
      have hbit := Nat.testBit_eq_decide_div_mod_eq (x := n) (i := k)
      have hdd : n / 2 ^ (k + 1) = n / 2 ^ k / 2 := by rw [Nat.pow_succ, Nat.div_div_eq_div_mul]
      rw [← hx, hbit]
      repeat' (first | (simp only [go_sem, seval, Bool.not_true, Bool.not_false]) | (refine CR_pure (t1) rfl ?_) | (refine CR_pure (t2) rfl ?_) | (simp (disch := omega) only [IntWalk.i64_in, IntWalk.u64_in]) | (with_reducible refine CC.T (by assumption) ?_) | (with_reducible refine CC.F (by assumption) ?_) | (with_reducible refine CC.bT (by assumption) ?_) | (with_reducible refine CC.bF (by assumption) ?_) | (with_reducible refine GB.T (by assumption) ?_) | (with_reducible refine GB.F (by assumption) ?_) | (with_reducible refine GB.bT (by assumption) ?_) | (with_reducible refine GB.bF (by assumption) ?_) | (with_reducible refine CC.dT (by omega) ?_) | (with_reducible refine CC.dF (by omega) ?_) | (with_reducible refine CC.eT (by omega) ?_) | (with_reducible refine CC.eF (by omega) ?_) | (with_reducible refine GB.dT (by omega) ?_) | (with_reducible refine GB.dF (by omega) ?_) | (with_reducible refine GB.eT (by omega) ?_) | (with_reducible refine GB.eF (by omega) ?_) | (with_reducible refine CC.nT (by omega) ?_) | (with_reducible refine CC.nF (by omega) ?_) | (with_reducible refine CC.bb (fun hc => ?_) (fun hc => ?_)) | (with_reducible refine GB.bb (fun hc => ?_) (fun hc => ?_)) | (with_reducible refine CC.d (fun hc => ?_) (fun hc => ?_)) | (with_reducible refine CC.e (fun hc => ?_) (fun hc => ?_)) | (with_reducible refine CC.n (fun hc => ?_) (fun hc => ?_)) | (with_reducible refine CC.mk (fun hc => ?_) (fun hc => ?_)) | (with_reducible refine GB.d (fun hc => ?_) (fun hc => ?_)) | (with_reducible refine GB.e (fun hc => ?_) (fun hc => ?_)) | (with_reducible refine GB.n (fun hc => ?_) (fun hc => ?_)) | (with_reducible refine GB.mk (fun hc => ?_) (fun hc => ?_)) | (with_reducible refine And.intro (by first | omega | decide) ?_) | omega | decide | fail)
      · have hb2 : n / 2 ^ k = 2 * (n / 2 ^ (k + 1)) + 1 := by omega
        refine hR k rfl _ ?_
        rw [hb2, hx, sqMod1]
        (refine AS.Le.of (by first | decide | omega) ?_ ?_ <;> simp [LeT, LeH, tget, hget, AV.bd, AV.bd.bdL, u8, bd_cellsOf, bcells_bd, icells_bd])
      · have hb2 : n / 2 ^ k = 2 * (n / 2 ^ (k + 1)) := by omega
        refine hR k rfl _ ?_
        rw [hb2, hx, sqMod]
        (refine AS.Le.of (by first | decide | omega) ?_ ?_ <;> simp [LeT, LeH, tget, hget, AV.bd, AV.bd.bdL, u8, bd_cellsOf, bcells_bd, icells_bd])
/-- The symbol of the program on words. -/
theorem lowN {n : Nat} (h : n < 18446744073709551616) : EvP Tryz.prog 91 [N n] (E (n % 8 : Nat)) := by
  by_cases h0 : n = 0
  · subst h0
    refine EvP.w mixed Tryz.call91 Tryz.func91 rfl (by cbv) (by cbv) rfl ?_
    simp only [go_sem, seval, Bool.not_true, Bool.not_false]
    repeat' (first | (simp only [go_sem, seval, Bool.not_true, Bool.not_false , nilT]) | (simp (disch := omega) only [IntWalk.i64_in, IntWalk.u64_in]) | (with_reducible refine CC.T (by assumption) ?_) | (with_reducible refine CC.F (by assumption) ?_) | (with_reducible refine CC.bT (by assumption) ?_) | (with_reducible refine CC.bF (by assumption) ?_) | (with_reducible refine GB.T (by assumption) ?_) | (with_reducible refine GB.F (by assumption) ?_) | (with_reducible refine GB.bT (by assumption) ?_) | (with_reducible refine GB.bF (by assumption) ?_) | (with_reducible refine CC.dT (by omega) ?_) | (with_reducible refine CC.dF (by omega) ?_) | (with_reducible refine CC.eT (by omega) ?_) | (with_reducible refine CC.eF (by omega) ?_) | (with_reducible refine GB.dT (by omega) ?_) | (with_reducible refine GB.dF (by omega) ?_) | (with_reducible refine GB.eT (by omega) ?_) | (with_reducible refine GB.eF (by omega) ?_) | (with_reducible refine CC.nT (by omega) ?_) | (with_reducible refine CC.nF (by omega) ?_) | (with_reducible refine CC.bb (fun hc => ?_) (fun hc => ?_)) | (with_reducible refine GB.bb (fun hc => ?_) (fun hc => ?_)) | (with_reducible refine CC.d (fun hc => ?_) (fun hc => ?_)) | (with_reducible refine CC.e (fun hc => ?_) (fun hc => ?_)) | (with_reducible refine CC.n (fun hc => ?_) (fun hc => ?_)) | (with_reducible refine CC.mk (fun hc => ?_) (fun hc => ?_)) | (with_reducible refine GB.d (fun hc => ?_) (fun hc => ?_)) | (with_reducible refine GB.e (fun hc => ?_) (fun hc => ?_)) | (with_reducible refine GB.n (fun hc => ?_) (fun hc => ?_)) | (with_reducible refine GB.mk (fun hc => ?_) (fun hc => ?_)) | (with_reducible refine And.intro (by first | omega | decide) ?_) | omega | decide | fail)
  · have hc := nilF h0
    have hb := bts_canon n
    have hne : bts n ≠ [] := fun e => h0 (bts_nil.1 e)
    obtain ⟨r, c, hr⟩ : ∃ r c, bts n = r ++ [c] := ⟨_, _, (List.dropLast_concat_getLast hne).symm⟩
    have hn := num_bts n
    rw [hr, num_snoc] at hn
    have hl : (bts n).length = r.length + 1 := by rw [hr]; simp
    have hg : (bts n).getD r.length 0 = c := by rw [hr]; simp [List.getD_eq_getElem?_getD]
    have hcl := c.toNat_lt
    have hlen := lN h
    have he : ∀ _ : True, (((r.length + 1 : Nat) : Int) - 1).toNat = r.length := fun _ => by omega
    refine EvP.w mixed Tryz.call91 Tryz.func91 rfl (by cbv) (by cbv) rfl ?_
    simp only [go_sem, seval, Bool.not_true, Bool.not_false]
    repeat' (first | (simp only [go_sem, seval, Bool.not_true, Bool.not_false , hc, hl, he trivial, hg]) | (simp (disch := omega) only [IntWalk.i64_in, IntWalk.u64_in]) | (with_reducible refine CC.T (by assumption) ?_) | (with_reducible refine CC.F (by assumption) ?_) | (with_reducible refine CC.bT (by assumption) ?_) | (with_reducible refine CC.bF (by assumption) ?_) | (with_reducible refine GB.T (by assumption) ?_) | (with_reducible refine GB.F (by assumption) ?_) | (with_reducible refine GB.bT (by assumption) ?_) | (with_reducible refine GB.bF (by assumption) ?_) | (with_reducible refine CC.dT (by omega) ?_) | (with_reducible refine CC.dF (by omega) ?_) | (with_reducible refine CC.eT (by omega) ?_) | (with_reducible refine CC.eF (by omega) ?_) | (with_reducible refine GB.dT (by omega) ?_) | (with_reducible refine GB.dF (by omega) ?_) | (with_reducible refine GB.eT (by omega) ?_) | (with_reducible refine GB.eF (by omega) ?_) | (with_reducible refine CC.nT (by omega) ?_) | (with_reducible refine CC.nF (by omega) ?_) | (with_reducible refine CC.bb (fun hc => ?_) (fun hc => ?_)) | (with_reducible refine GB.bb (fun hc => ?_) (fun hc => ?_)) | (with_reducible refine CC.d (fun hc => ?_) (fun hc => ?_)) | (with_reducible refine CC.e (fun hc => ?_) (fun hc => ?_)) | (with_reducible refine CC.n (fun hc => ?_) (fun hc => ?_)) | (with_reducible refine CC.mk (fun hc => ?_) (fun hc => ?_)) | (with_reducible refine GB.d (fun hc => ?_) (fun hc => ?_)) | (with_reducible refine GB.e (fun hc => ?_) (fun hc => ?_)) | (with_reducible refine GB.n (fun hc => ?_) (fun hc => ?_)) | (with_reducible refine GB.mk (fun hc => ?_) (fun hc => ?_)) | (with_reducible refine And.intro (by first | omega | decide) ?_) | omega | decide | fail)
    congr 1
    omega
theorem two_eq : (.s [2] : PV) = N 2 := rfl
theorem oneF (n : Nat) : (bts n == ([1] : Bytes)) = decide (n = 1) := btsEq n 1
end Go.Proofs.YtpihmkhmhkopdaaGreatDoor
