/-
  WALKS of package power: one power; rsagroup: a drawn square. Own work.
-/
import Derived.Test.YtpihmkhmhkopdaaGreatDoorV0
import Derived.Test.YtpihmkhmhkopdaaGreatDoorV18
set_option linter.all false
namespace Go.Proofs.YtpihmkhmhkopdaaGreatDoor
open Go Go.Dom Go.Num
set_option maxRecDepth 100000
set_option maxHeartbeats 8000000

theorem times1_ok (n1 n2 nm : Nat) (hne : n1 ≠ n2) {a b m : Nat} (o : Bytes) (el el2 : Option TypeId) (ha : a < 18446744073709551616) (hb : b < 18446744073709551616) (hm : m < 18446744073709551616) (h0 : 0 < m) : EvA Tryz.prog 99 nm [(n1, ⟨0, [.v (N a)], false, el⟩), (n2, ⟨0, [.v (N m), .v (.s o)], false, el2⟩)] [.v (N b), .p n1 0 0, .p n2 0 0] (.tup []) [(n1, some ⟨0, [.v (N (a * b % m))], false, el⟩)] := by
  have hx := mMulN ha hb hm h0
  refine EvA.w mixed Tryz.call99 Tryz.func99 rfl (by cbv) (by cbv) (obs := [⟨0, [.v (N a)], false, el⟩, ⟨0, [.v (N m), .v (.s o)], false, el2⟩]) (args := [.v (N b), .p 0 0 0, .p 1 0 0]) (fs := [some (some ⟨0, [.v (N (a * b % m))], false, el⟩), none]) (j := none) (nw := none) (v := .tup []) (ns := [n1, n2]) (obsA := [⟨0, [.v (N a)], false, el⟩, ⟨0, [.v (N m), .v (.s o)], false, el2⟩]) rfl ?_ (by simp) (by simp [hne]) rfl (by simp [mapO, AObj.ren, AV.ren, AV.ren.renL]) (by simp [mapO, AV.ren, ixOf, hne, Ne.symm hne]) (by simp [AV.ren, AV.ren.renL]) (by simp [upsOf, outs, AObj.ren, AV.ren, AV.ren.renL])
  simp only [go_sem, seval]
  repeat' (first | (simp only [go_sem, seval, Bool.not_true, Bool.not_false , true_or, or_true, false_or, or_false, Option.some.injEq, RetA, resLA, outV, outC, outO, viewC, hfV, foV, finH, finN, mkResA, mapO_outC_bcells, AV.ren, AV.ren.renL, renL_bcells]) | (refine CR_pure (hx) rfl ?_) | (simp (disch := omega) only [IntWalk.i64_in, IntWalk.u64_in]) | (with_reducible refine CC.T (by assumption) ?_) | (with_reducible refine CC.F (by assumption) ?_) | (with_reducible refine CC.bT (by assumption) ?_) | (with_reducible refine CC.bF (by assumption) ?_) | (with_reducible refine GB.T (by assumption) ?_) | (with_reducible refine GB.F (by assumption) ?_) | (with_reducible refine GB.bT (by assumption) ?_) | (with_reducible refine GB.bF (by assumption) ?_) | (with_reducible refine CC.dT (by omega) ?_) | (with_reducible refine CC.dF (by omega) ?_) | (with_reducible refine CC.eT (by omega) ?_) | (with_reducible refine CC.eF (by omega) ?_) | (with_reducible refine GB.dT (by omega) ?_) | (with_reducible refine GB.dF (by omega) ?_) | (with_reducible refine GB.eT (by omega) ?_) | (with_reducible refine GB.eF (by omega) ?_) | (with_reducible refine CC.nT (by omega) ?_) | (with_reducible refine CC.nF (by omega) ?_) | (with_reducible refine CC.bb (fun hc => ?_) (fun hc => ?_)) | (with_reducible refine GB.bb (fun hc => ?_) (fun hc => ?_)) | (with_reducible refine CC.d (fun hc => ?_) (fun hc => ?_)) | (with_reducible refine CC.e (fun hc => ?_) (fun hc => ?_)) | (with_reducible refine CC.n (fun hc => ?_) (fun hc => ?_)) | (with_reducible refine CC.mk (fun hc => ?_) (fun hc => ?_)) | (with_reducible refine GB.d (fun hc => ?_) (fun hc => ?_)) | (with_reducible refine GB.e (fun hc => ?_) (fun hc => ?_)) | (with_reducible refine GB.n (fun hc => ?_) (fun hc => ?_)) | (with_reducible refine GB.mk (fun hc => ?_) (fun hc => ?_)) | (with_reducible refine And.intro (by first | omega | decide) ?_) | omega | decide | fail)
  all_goals skip
theorem mks1 {x : AV} : (List.replicate 1 [x]).flatten = [x] := rfl
theorem drop1 {x : AV} : List.drop 1 [x] = [] := rfl
theorem take1 {x : AV} : List.take 1 [x] = [x] := rfl
theorem set1 {x y : AV} : List.set [x] 0 y = [y] := rfl
theorem blen0 {n : Nat} : n / 2 ^ blen n = 0 := by
  refine Nat.div_eq_of_lt ?_
  unfold blen
  split
  · rename_i h; rw [h]; decide
  · rename_i h; exact Nat.lt_log2_self
theorem Exp1_ok {m x e : Bytes} (lm : m.length ≤ 8) (hx : rHas m [] x = true) (he : validN e = true) : EvP Tryz.prog 49 [G m [], .s x, .agg [.b false, .s e]] (.tup [N (num x ^ num e % num m), E 0]) := by
  obtain ⟨vx, lx, vm, ox⟩ : validN x = true ∧ num x < num m ∧ validN m = true ∧ 0 < num m := by
    have h := hx
    simp only [rHas, goodB, Bool.and_eq_true, decide_eq_true_eq] at h
    exact ⟨h.1.1.1.2, h.1.2, h.1.1.1.1.1.1.1, by have := h.1.1.1.1.2; omega⟩
  have hn := num8 lm
  have c1 := natValid x
  rw [vx] at c1
  have c2 := iValid_ok false e
  rw [he] at c2
  have c3 := pwCheck_ok m
  rw [pwE0.2 (rHas_good hx)] at c3
  have c4 := pwhas_ok lm x
  rw [hx] at c4
  have hch : EvP Tryz.prog 20 [G m [], .sl [.s x], .sl [.agg [.b false, .s e]], .b true] (E 0) := by
    refine EvP.w mixed Tryz.call20 Tryz.func20 rfl (by cbv) (by cbv) rfl ?_
    simp only [go_sem, seval, Bool.not_true, Bool.not_false]
    repeat' (first | (simp only [go_sem, seval, Bool.not_true, Bool.not_false , List.getD_cons_zero, List.getD_cons_succ]) | (refine CR_pure (c1) rfl ?_) | (refine CR_pure (c2) rfl ?_) | (refine CR_pure (c3) rfl ?_) | (refine CR_pure (c4) rfl ?_) | (refine loop_unroll' ?_) | (simp (disch := omega) only [IntWalk.i64_in, IntWalk.u64_in]) | (with_reducible refine CC.T (by assumption) ?_) | (with_reducible refine CC.F (by assumption) ?_) | (with_reducible refine CC.bT (by assumption) ?_) | (with_reducible refine CC.bF (by assumption) ?_) | (with_reducible refine GB.T (by assumption) ?_) | (with_reducible refine GB.F (by assumption) ?_) | (with_reducible refine GB.bT (by assumption) ?_) | (with_reducible refine GB.bF (by assumption) ?_) | (with_reducible refine CC.dT (by omega) ?_) | (with_reducible refine CC.dF (by omega) ?_) | (with_reducible refine CC.eT (by omega) ?_) | (with_reducible refine CC.eF (by omega) ?_) | (with_reducible refine GB.dT (by omega) ?_) | (with_reducible refine GB.dF (by omega) ?_) | (with_reducible refine GB.eT (by omega) ?_) | (with_reducible refine GB.eF (by omega) ?_) | (with_reducible refine CC.nT (by omega) ?_) | (with_reducible refine CC.nF (by omega) ?_) | (with_reducible refine CC.bb (fun hc => ?_) (fun hc => ?_)) | (with_reducible refine GB.bb (fun hc => ?_) (fun hc => ?_)) | (with_reducible refine CC.d (fun hc => ?_) (fun hc => ?_)) | (with_reducible refine CC.e (fun hc => ?_) (fun hc => ?_)) | (with_reducible refine CC.n (fun hc => ?_) (fun hc => ?_)) | (with_reducible refine CC.mk (fun hc => ?_) (fun hc => ?_)) | (with_reducible refine GB.d (fun hc => ?_) (fun hc => ?_)) | (with_reducible refine GB.e (fun hc => ?_) (fun hc => ?_)) | (with_reducible refine GB.n (fun hc => ?_) (fun hc => ?_)) | (with_reducible refine GB.mk (fun hc => ?_) (fun hc => ?_)) | (with_reducible refine And.intro (by first | omega | decide) ?_) | omega | decide | fail)
  have hbt := Bits_ok he
  have hbi := fun i hi => Bit_ok he i hi
  clear c1 c2 c3 c4
  have hp : EvP Tryz.prog 75 [G m [], .sl [.s x], .sl [.agg [.b false, .s e]]] (.tup [N (num x ^ num e % num m), E 0]) := by
    rw [← N_of vx]
    rw [← N_of vx] at hch
    obtain ⟨xm, hxm⟩ : ∃ xm, xm = num x := ⟨_, rfl⟩
    obtain ⟨n, hnn⟩ : ∃ n, n = num e := ⟨_, rfl⟩
    obtain ⟨M, hM⟩ : ∃ M, M = num m := ⟨_, rfl⟩
    have eG : G m [] = .agg [N M, .s []] := by rw [hM, N_of vm]
    rw [eG] at hch ⊢
    rw [← hxm] at hch lx
    rw [← hM] at lx hn ox
    rw [← hnn] at hbt hbi
    rw [← hxm, ← hnn, ← hM]
    have hM8 : 8 < M := by rw [hM]; have := rHas_good hx; simp [goodB] at this; exact this.2
    have hxw : xm < 18446744073709551616 := by omega
    clear hx
    have hbl : blen n < 1000000 := by
      have h1 : n < 2 ^ 1024 := by
        rw [hnn]
        refine Nat.lt_of_lt_of_le (num_lt e) ?_
        have le : e.length ≤ 128 := by simp [validN] at he; exact he.1
        exact Nat.le_trans (Nat.pow_le_pow_right (by decide) le) (by decide +kernel)
      unfold blen
      split
      · decide
      · rename_i h
        have := (Nat.log2_lt h).2 h1
        omega
    have hmx : ∀ _ : True, (if (blen n : Int) > 0 then (blen n : Int) else 0) = (blen n : Int) := fun _ => by split <;> omega
    have hM1 : 1 % M = 1 := Nat.mod_eq_of_lt (by omega)
    have hw1 : ∀ _ : True, IntKind.i64.wrap ((blen n : Int) - 1) = (blen n : Int) - 1 := fun _ => IntWalk.i64_in _ (by omega)
    refine EvP.w mixed Tryz.call75 Tryz.func75 rfl (by cbv) (by cbv) rfl ?_
    simp only [go_sem, seval, Bool.not_true, Bool.not_false]
    repeat' (first | (simp only [go_sem, seval, Bool.not_true, Bool.not_false , List.getD_cons_zero, List.getD_cons_succ, mks1, drop1, take1, set1, hmx trivial, hw1 trivial, one_eq]) | (refine CR_pure (hch) rfl ?_) | (refine CR_pure (hbt) rfl ?_) | (refine CR_pure (Of1) rfl ?_) | (simp (disch := omega) only [IntWalk.i64_in, IntWalk.u64_in]) | (with_reducible refine CC.T (by assumption) ?_) | (with_reducible refine CC.F (by assumption) ?_) | (with_reducible refine CC.bT (by assumption) ?_) | (with_reducible refine CC.bF (by assumption) ?_) | (with_reducible refine GB.T (by assumption) ?_) | (with_reducible refine GB.F (by assumption) ?_) | (with_reducible refine GB.bT (by assumption) ?_) | (with_reducible refine GB.bF (by assumption) ?_) | (with_reducible refine CC.dT (by omega) ?_) | (with_reducible refine CC.dF (by omega) ?_) | (with_reducible refine CC.eT (by omega) ?_) | (with_reducible refine CC.eF (by omega) ?_) | (with_reducible refine GB.dT (by omega) ?_) | (with_reducible refine GB.dF (by omega) ?_) | (with_reducible refine GB.eT (by omega) ?_) | (with_reducible refine GB.eF (by omega) ?_) | (with_reducible refine CC.nT (by omega) ?_) | (with_reducible refine CC.nF (by omega) ?_) | (with_reducible refine CC.bb (fun hc => ?_) (fun hc => ?_)) | (with_reducible refine GB.bb (fun hc => ?_) (fun hc => ?_)) | (with_reducible refine CC.d (fun hc => ?_) (fun hc => ?_)) | (with_reducible refine CC.e (fun hc => ?_) (fun hc => ?_)) | (with_reducible refine CC.n (fun hc => ?_) (fun hc => ?_)) | (with_reducible refine CC.mk (fun hc => ?_) (fun hc => ?_)) | (with_reducible refine GB.d (fun hc => ?_) (fun hc => ?_)) | (with_reducible refine GB.e (fun hc => ?_) (fun hc => ?_)) | (with_reducible refine GB.n (fun hc => ?_) (fun hc => ?_)) | (with_reducible refine GB.mk (fun hc => ?_) (fun hc => ?_)) | (with_reducible refine And.intro (by first | omega | decide) ?_) | omega | decide | fail)
    refine loop_unroll' ?_
    repeat' (first | (simp only [go_sem, seval, Bool.not_true, Bool.not_false , List.getD_cons_zero, List.getD_cons_succ, mks1, drop1, take1, set1, hmx trivial, hw1 trivial, one_eq]) | (refine CR_pure (hch) rfl ?_) | (refine CR_pure (hbt) rfl ?_) | (refine CR_pure (Of1) rfl ?_) | (simp (disch := omega) only [IntWalk.i64_in, IntWalk.u64_in]) | (with_reducible refine CC.T (by assumption) ?_) | (with_reducible refine CC.F (by assumption) ?_) | (with_reducible refine CC.bT (by assumption) ?_) | (with_reducible refine CC.bF (by assumption) ?_) | (with_reducible refine GB.T (by assumption) ?_) | (with_reducible refine GB.F (by assumption) ?_) | (with_reducible refine GB.bT (by assumption) ?_) | (with_reducible refine GB.bF (by assumption) ?_) | (with_reducible refine CC.dT (by omega) ?_) | (with_reducible refine CC.dF (by omega) ?_) | (with_reducible refine CC.eT (by omega) ?_) | (with_reducible refine CC.eF (by omega) ?_) | (with_reducible refine GB.dT (by omega) ?_) | (with_reducible refine GB.dF (by omega) ?_) | (with_reducible refine GB.eT (by omega) ?_) | (with_reducible refine GB.eF (by omega) ?_) | (with_reducible refine CC.nT (by omega) ?_) | (with_reducible refine CC.nF (by omega) ?_) | (with_reducible refine CC.bb (fun hc => ?_) (fun hc => ?_)) | (with_reducible refine GB.bb (fun hc => ?_) (fun hc => ?_)) | (with_reducible refine CC.d (fun hc => ?_) (fun hc => ?_)) | (with_reducible refine CC.e (fun hc => ?_) (fun hc => ?_)) | (with_reducible refine CC.n (fun hc => ?_) (fun hc => ?_)) | (with_reducible refine CC.mk (fun hc => ?_) (fun hc => ?_)) | (with_reducible refine GB.d (fun hc => ?_) (fun hc => ?_)) | (with_reducible refine GB.e (fun hc => ?_) (fun hc => ?_)) | (with_reducible refine GB.n (fun hc => ?_) (fun hc => ?_)) | (with_reducible refine GB.mk (fun hc => ?_) (fun hc => ?_)) | (with_reducible refine And.intro (by first | omega | decide) ?_) | omega | decide | fail)
    refine loop_unroll' ?_
    repeat' (first | (simp only [go_sem, seval, Bool.not_true, Bool.not_false , List.getD_cons_zero, List.getD_cons_succ, mks1, drop1, take1, set1, hmx trivial, hw1 trivial, one_eq]) | (refine CR_pure (hch) rfl ?_) | (refine CR_pure (hbt) rfl ?_) | (refine CR_pure (Of1) rfl ?_) | (simp (disch := omega) only [IntWalk.i64_in, IntWalk.u64_in]) | (with_reducible refine CC.T (by assumption) ?_) | (with_reducible refine CC.F (by assumption) ?_) | (with_reducible refine CC.bT (by assumption) ?_) | (with_reducible refine CC.bF (by assumption) ?_) | (with_reducible refine GB.T (by assumption) ?_) | (with_reducible refine GB.F (by assumption) ?_) | (with_reducible refine GB.bT (by assumption) ?_) | (with_reducible refine GB.bF (by assumption) ?_) | (with_reducible refine CC.dT (by omega) ?_) | (with_reducible refine CC.dF (by omega) ?_) | (with_reducible refine CC.eT (by omega) ?_) | (with_reducible refine CC.eF (by omega) ?_) | (with_reducible refine GB.dT (by omega) ?_) | (with_reducible refine GB.dF (by omega) ?_) | (with_reducible refine GB.eT (by omega) ?_) | (with_reducible refine GB.eF (by omega) ?_) | (with_reducible refine CC.nT (by omega) ?_) | (with_reducible refine CC.nF (by omega) ?_) | (with_reducible refine CC.bb (fun hc => ?_) (fun hc => ?_)) | (with_reducible refine GB.bb (fun hc => ?_) (fun hc => ?_)) | (with_reducible refine CC.d (fun hc => ?_) (fun hc => ?_)) | (with_reducible refine CC.e (fun hc => ?_) (fun hc => ?_)) | (with_reducible refine CC.n (fun hc => ?_) (fun hc => ?_)) | (with_reducible refine CC.mk (fun hc => ?_) (fun hc => ?_)) | (with_reducible refine GB.d (fun hc => ?_) (fun hc => ?_)) | (with_reducible refine GB.e (fun hc => ?_) (fun hc => ?_)) | (with_reducible refine GB.n (fun hc => ?_) (fun hc => ?_)) | (with_reducible refine GB.mk (fun hc => ?_) (fun hc => ?_)) | (with_reducible refine And.intro (by first | omega | decide) ?_) | omega | decide | fail)
    refine loop_run (α := Nat) (fun k => k) (fun k => ⟨[(2, .v (.sl [.agg [.b false, .s e]])), (9, .rs 1017 0 0 1 1), (15, .p 1052 0 0), (16, .fn (.func 99) [] [.p 1052 0 0, .p 1000 0 0]), (17, .v (.i .i64 ((k : Int) - 1)))], [(1052, ⟨0, [.v (N (xm ^ (n / 2 ^ k) % M))], false, some 22⟩), (1017, ⟨0, [.v (N xm)], false, none⟩), (1000, ⟨0, [.v (N M), .v (.s [])], false, none⟩)], _⟩) (fun k => k ≤ blen n) (blen n) (fun _ => Nat.le_refl _) (Nat.le_refl _) ?_ ?_
    · (refine AS.Le.of (by first | decide | omega) ?_ ?_ <;> simp [LeT, LeH, tget, hget, AV.bd, AV.bd.bdL, u8, bd_cellsOf, bcells_bd, icells_bd])
      rw [blen0, Nat.pow_zero, hM1]
    · intro k hk R hR
      cases k with
      | zero =>
        repeat' (first | (simp only [go_sem, seval, Bool.not_true, Bool.not_false]) | (simp (disch := omega) only [IntWalk.i64_in, IntWalk.u64_in]) | (with_reducible refine CC.T (by assumption) ?_) | (with_reducible refine CC.F (by assumption) ?_) | (with_reducible refine CC.bT (by assumption) ?_) | (with_reducible refine CC.bF (by assumption) ?_) | (with_reducible refine GB.T (by assumption) ?_) | (with_reducible refine GB.F (by assumption) ?_) | (with_reducible refine GB.bT (by assumption) ?_) | (with_reducible refine GB.bF (by assumption) ?_) | (with_reducible refine CC.dT (by omega) ?_) | (with_reducible refine CC.dF (by omega) ?_) | (with_reducible refine CC.eT (by omega) ?_) | (with_reducible refine CC.eF (by omega) ?_) | (with_reducible refine GB.dT (by omega) ?_) | (with_reducible refine GB.dF (by omega) ?_) | (with_reducible refine GB.eT (by omega) ?_) | (with_reducible refine GB.eF (by omega) ?_) | (with_reducible refine CC.nT (by omega) ?_) | (with_reducible refine CC.nF (by omega) ?_) | (with_reducible refine CC.bb (fun hc => ?_) (fun hc => ?_)) | (with_reducible refine GB.bb (fun hc => ?_) (fun hc => ?_)) | (with_reducible refine CC.d (fun hc => ?_) (fun hc => ?_)) | (with_reducible refine CC.e (fun hc => ?_) (fun hc => ?_)) | (with_reducible refine CC.n (fun hc => ?_) (fun hc => ?_)) | (with_reducible refine CC.mk (fun hc => ?_) (fun hc => ?_)) | (with_reducible refine GB.d (fun hc => ?_) (fun hc => ?_)) | (with_reducible refine GB.e (fun hc => ?_) (fun hc => ?_)) | (with_reducible refine GB.n (fun hc => ?_) (fun hc => ?_)) | (with_reducible refine GB.mk (fun hc => ?_) (fun hc => ?_)) | (with_reducible refine And.intro (by first | omega | decide) ?_) | omega | decide | fail)
        rw [Nat.div_one]
      | succ k =>
        obtain ⟨z, hz⟩ : ∃ z, z = xm ^ (n / 2 ^ (k + 1)) % M := ⟨_, rfl⟩
        have hzm : z < M := by rw [hz]; exact Nat.mod_lt _ (by omega)
        have e1 : ∀ _ : True, ((k + 1 : Nat) : Int) - 1 = (k : Int) := fun _ => by omega
        have hge : ∀ _ : True, decide ((k : Int) ≥ 0) = true := fun _ => by simp
        have hbit := hbi k (by omega)
        have hdec : n.testBit k = decide (n / 2 ^ k % 2 = 1) := Nat.testBit_eq_decide_div_mod_eq
        rw [hdec] at hbit
        have hwk : ∀ _ : True, IntKind.i64.wrap ((k : Int) - 1) = (k : Int) - 1 := fun _ => IntWalk.i64_in _ (by omega)
        have hdd : n / 2 ^ (k + 1) = n / 2 ^ k / 2 := by rw [Nat.pow_succ, Nat.div_div_eq_div_mul]
        have hzz : z * z % M < M := Nat.mod_lt _ (by omega)
        rw [← hz]
        have hx1 := fun nm => times1_ok 1052 1000 nm (by decide) [] (some 22) none (a := z) (b := z) (m := M) (by omega) (by omega) (by omega) (by omega)
        have hx2 := fun nm => times1_ok 1052 1000 nm (by decide) [] (some 22) none (a := z * z % M) (b := xm) (m := M) (by omega) (by omega) (by omega) (by omega)
        repeat' (first | (simp only [go_sem, seval, Bool.not_true, Bool.not_false , e1 trivial, hge trivial, List.getD_cons_zero, List.getD_cons_succ, take1]) | (refine CR_eff (hx1 _) (by simp [hget]) ?_) | (simp (disch := omega) only [IntWalk.i64_in, IntWalk.u64_in]) | (with_reducible refine CC.T (by assumption) ?_) | (with_reducible refine CC.F (by assumption) ?_) | (with_reducible refine CC.bT (by assumption) ?_) | (with_reducible refine CC.bF (by assumption) ?_) | (with_reducible refine GB.T (by assumption) ?_) | (with_reducible refine GB.F (by assumption) ?_) | (with_reducible refine GB.bT (by assumption) ?_) | (with_reducible refine GB.bF (by assumption) ?_) | (with_reducible refine CC.dT (by omega) ?_) | (with_reducible refine CC.dF (by omega) ?_) | (with_reducible refine CC.eT (by omega) ?_) | (with_reducible refine CC.eF (by omega) ?_) | (with_reducible refine GB.dT (by omega) ?_) | (with_reducible refine GB.dF (by omega) ?_) | (with_reducible refine GB.eT (by omega) ?_) | (with_reducible refine GB.eF (by omega) ?_) | (with_reducible refine CC.nT (by omega) ?_) | (with_reducible refine CC.nF (by omega) ?_) | (with_reducible refine CC.bb (fun hc => ?_) (fun hc => ?_)) | (with_reducible refine GB.bb (fun hc => ?_) (fun hc => ?_)) | (with_reducible refine CC.d (fun hc => ?_) (fun hc => ?_)) | (with_reducible refine CC.e (fun hc => ?_) (fun hc => ?_)) | (with_reducible refine CC.n (fun hc => ?_) (fun hc => ?_)) | (with_reducible refine CC.mk (fun hc => ?_) (fun hc => ?_)) | (with_reducible refine GB.d (fun hc => ?_) (fun hc => ?_)) | (with_reducible refine GB.e (fun hc => ?_) (fun hc => ?_)) | (with_reducible refine GB.n (fun hc => ?_) (fun hc => ?_)) | (with_reducible refine GB.mk (fun hc => ?_) (fun hc => ?_)) | (with_reducible refine And.intro (by first | omega | decide) ?_) | omega | decide | fail)
        refine loop_unroll' ?_
        repeat' (first | (simp only [go_sem, seval, Bool.not_true, Bool.not_false , hge trivial, hwk trivial, List.getD_cons_zero, List.getD_cons_succ, take1]) | (refine CR_pure (hbit) rfl ?_) | (refine CR_eff (hx2 _) (by simp [hget]) ?_) | (refine loop_unroll' ?_) | (simp (disch := omega) only [IntWalk.i64_in, IntWalk.u64_in]) | (with_reducible refine CC.T (by assumption) ?_) | (with_reducible refine CC.F (by assumption) ?_) | (with_reducible refine CC.bT (by assumption) ?_) | (with_reducible refine CC.bF (by assumption) ?_) | (with_reducible refine GB.T (by assumption) ?_) | (with_reducible refine GB.F (by assumption) ?_) | (with_reducible refine GB.bT (by assumption) ?_) | (with_reducible refine GB.bF (by assumption) ?_) | (with_reducible refine CC.dT (by omega) ?_) | (with_reducible refine CC.dF (by omega) ?_) | (with_reducible refine CC.eT (by omega) ?_) | (with_reducible refine CC.eF (by omega) ?_) | (with_reducible refine GB.dT (by omega) ?_) | (with_reducible refine GB.dF (by omega) ?_) | (with_reducible refine GB.eT (by omega) ?_) | (with_reducible refine GB.eF (by omega) ?_) | (with_reducible refine CC.nT (by omega) ?_) | (with_reducible refine CC.nF (by omega) ?_) | (with_reducible refine CC.bb (fun hc => ?_) (fun hc => ?_)) | (with_reducible refine GB.bb (fun hc => ?_) (fun hc => ?_)) | (with_reducible refine CC.d (fun hc => ?_) (fun hc => ?_)) | (with_reducible refine CC.e (fun hc => ?_) (fun hc => ?_)) | (with_reducible refine CC.n (fun hc => ?_) (fun hc => ?_)) | (with_reducible refine CC.mk (fun hc => ?_) (fun hc => ?_)) | (with_reducible refine GB.d (fun hc => ?_) (fun hc => ?_)) | (with_reducible refine GB.e (fun hc => ?_) (fun hc => ?_)) | (with_reducible refine GB.n (fun hc => ?_) (fun hc => ?_)) | (with_reducible refine GB.mk (fun hc => ?_) (fun hc => ?_)) | (with_reducible refine And.intro (by first | omega | decide) ?_) | omega | decide | fail)
        · have hb2 : n / 2 ^ k = 2 * (n / 2 ^ (k + 1)) + 1 := by omega
          refine hR k (by omega) (by omega) _ ?_
          have ez : z * z % M * xm % M = xm ^ (n / 2 ^ k) % M := by
            have e3 : z * z % M = xm ^ (n / 2 ^ (k + 1)) * xm ^ (n / 2 ^ (k + 1)) % M := by rw [hz, ← Nat.mul_mod]
            rw [hb2, Nat.pow_succ, Nat.two_mul, Nat.pow_add, e3, Nat.mod_mul_mod]
          rw [← ez]
          (refine AS.Le.of (by first | decide | omega) ?_ ?_ <;> simp [LeT, LeH, tget, hget, AV.bd, AV.bd.bdL, u8, bd_cellsOf, bcells_bd, icells_bd])
        · have hb2 : n / 2 ^ k = 2 * (n / 2 ^ (k + 1)) := by omega
          refine hR k (by omega) (by omega) _ ?_
          have ez : z * z % M = xm ^ (n / 2 ^ k) % M := by
            rw [hb2, Nat.two_mul, Nat.pow_add, hz, ← Nat.mul_mod]
          rw [← ez]
          (refine AS.Le.of (by first | decide | omega) ?_ ?_ <;> simp [LeT, LeH, tget, hget, AV.bd, AV.bd.bdL, u8, bd_cellsOf, bcells_bd, icells_bd])
  refine EvP.w mixed Tryz.call49 Tryz.func49 rfl (by cbv) (by cbv) rfl ?_
  simp only [go_sem, seval, Bool.not_true, Bool.not_false]
  repeat' (first | (simp only [go_sem, seval, Bool.not_true, Bool.not_false]) | (refine CR_pure (hp) rfl ?_) | (simp (disch := omega) only [IntWalk.i64_in, IntWalk.u64_in]) | (with_reducible refine CC.T (by assumption) ?_) | (with_reducible refine CC.F (by assumption) ?_) | (with_reducible refine CC.bT (by assumption) ?_) | (with_reducible refine CC.bF (by assumption) ?_) | (with_reducible refine GB.T (by assumption) ?_) | (with_reducible refine GB.F (by assumption) ?_) | (with_reducible refine GB.bT (by assumption) ?_) | (with_reducible refine GB.bF (by assumption) ?_) | (with_reducible refine CC.dT (by omega) ?_) | (with_reducible refine CC.dF (by omega) ?_) | (with_reducible refine CC.eT (by omega) ?_) | (with_reducible refine CC.eF (by omega) ?_) | (with_reducible refine GB.dT (by omega) ?_) | (with_reducible refine GB.dF (by omega) ?_) | (with_reducible refine GB.eT (by omega) ?_) | (with_reducible refine GB.eF (by omega) ?_) | (with_reducible refine CC.nT (by omega) ?_) | (with_reducible refine CC.nF (by omega) ?_) | (with_reducible refine CC.bb (fun hc => ?_) (fun hc => ?_)) | (with_reducible refine GB.bb (fun hc => ?_) (fun hc => ?_)) | (with_reducible refine CC.d (fun hc => ?_) (fun hc => ?_)) | (with_reducible refine CC.e (fun hc => ?_) (fun hc => ?_)) | (with_reducible refine CC.n (fun hc => ?_) (fun hc => ?_)) | (with_reducible refine CC.mk (fun hc => ?_) (fun hc => ?_)) | (with_reducible refine GB.d (fun hc => ?_) (fun hc => ?_)) | (with_reducible refine GB.e (fun hc => ?_) (fun hc => ?_)) | (with_reducible refine GB.n (fun hc => ?_) (fun hc => ?_)) | (with_reducible refine GB.mk (fun hc => ?_) (fun hc => ?_)) | (with_reducible refine And.intro (by first | omega | decide) ?_) | omega | decide | fail)
theorem rHas_num {m x : Bytes} (hx : rHas m [] x = true) : validN x = true ∧ num x < num m ∧ validN m = true ∧ 8 < num m := by
  have h := hx
  simp only [rHas, goodB, Bool.and_eq_true, decide_eq_true_eq] at h
  exact ⟨h.1.1.1.2, h.1.2, h.1.1.1.1.1.1.1, h.1.1.1.1.2⟩
/-- A square is drawn at the first attempt. -/
theorem Square_ok {m : Bytes} (lm : m.length ≤ 8) {vs : List Bytes} (sd : Bytes) {i : Nat} (hv : vs.all validN = true) (hi : i < vs.length) (hl : vs.length < 1000000) (hx : rHas m [] (vs.getD i []) = true) : EvP Tryz.prog 42 [G m [], T vs sd i] (.tup [N (num (vs.getD i []) * num (vs.getD i []) % num m), T vs sd (i + 1 : Nat), E 0]) := by
  obtain ⟨vx, lx, vm, m8⟩ := rHas_num hx
  have v1 := natValid m
  rw [vm] at v1
  have v2 : EvP Tryz.prog 22 [.s []] (.b true) := natValid []
  have hw := wellFormed_ok sd hv (show i < 1000000 by omega) hl
  have hg := good_ok m []
  rw [rHas_good hx] at hg
  have hB := Below_ok sd hv vm (by intro h; subst h; simp [num] at m8) hi hl
  unfold drawR at hB
  rw [if_neg (by omega)] at hB
  have hh := rHas_ok lm [] (vs.getD i [])
  rw [hx] at hh
  have hn := num8 lm
  have hm := mMulN (a := num (vs.getD i [])) (b := num (vs.getD i [])) (m := num m) (by omega) (by omega) hn (by omega)
  rw [N_of vx, N_of vm] at hm
  clear hx lx
  generalize vs.getD i [] = x at *
  refine EvP.w mixed Tryz.call42 Tryz.func42 rfl (by cbv) (by cbv) rfl ?_
  simp only [go_sem, seval, Bool.not_true, Bool.not_false]
  repeat' (first | (simp only [go_sem, seval, Bool.not_true, Bool.not_false]) | (refine CR_pure (v1) rfl ?_) | (refine CR_pure (v2) rfl ?_) | (refine CR_pure (hw) rfl ?_) | (refine CR_pure (hg) rfl ?_) | (refine CR_pure (hB) rfl ?_) | (refine CR_pure (hh) rfl ?_) | (refine CR_pure (hm) rfl ?_) | (refine loop_unroll' ?_) | (simp (disch := omega) only [IntWalk.i64_in, IntWalk.u64_in]) | (with_reducible refine CC.T (by assumption) ?_) | (with_reducible refine CC.F (by assumption) ?_) | (with_reducible refine CC.bT (by assumption) ?_) | (with_reducible refine CC.bF (by assumption) ?_) | (with_reducible refine GB.T (by assumption) ?_) | (with_reducible refine GB.F (by assumption) ?_) | (with_reducible refine GB.bT (by assumption) ?_) | (with_reducible refine GB.bF (by assumption) ?_) | (with_reducible refine CC.dT (by omega) ?_) | (with_reducible refine CC.dF (by omega) ?_) | (with_reducible refine CC.eT (by omega) ?_) | (with_reducible refine CC.eF (by omega) ?_) | (with_reducible refine GB.dT (by omega) ?_) | (with_reducible refine GB.dF (by omega) ?_) | (with_reducible refine GB.eT (by omega) ?_) | (with_reducible refine GB.eF (by omega) ?_) | (with_reducible refine CC.nT (by omega) ?_) | (with_reducible refine CC.nF (by omega) ?_) | (with_reducible refine CC.bb (fun hc => ?_) (fun hc => ?_)) | (with_reducible refine GB.bb (fun hc => ?_) (fun hc => ?_)) | (with_reducible refine CC.d (fun hc => ?_) (fun hc => ?_)) | (with_reducible refine CC.e (fun hc => ?_) (fun hc => ?_)) | (with_reducible refine CC.n (fun hc => ?_) (fun hc => ?_)) | (with_reducible refine CC.mk (fun hc => ?_) (fun hc => ?_)) | (with_reducible refine GB.d (fun hc => ?_) (fun hc => ?_)) | (with_reducible refine GB.e (fun hc => ?_) (fun hc => ?_)) | (with_reducible refine GB.n (fun hc => ?_) (fun hc => ?_)) | (with_reducible refine GB.mk (fun hc => ?_) (fun hc => ?_)) | (with_reducible refine And.intro (by first | omega | decide) ?_) | omega | decide | fail)
  all_goals skip
theorem pvA_map (x : PV) (l : List PV) : pvArgs (.v x :: l.map .v) = some (x :: l) := by
  have h : ∀ l : List PV, pvArgs (l.map .v) = some l := by
    intro l
    induction l with
    | nil => rfl
    | cons y l ih =>
      unfold pvArgs at ih ⊢
      rw [List.map_cons, mapO, ih]
      rfl
  have := h (x :: l)
  exact this
/-- A draw that is good at once. -/
theorem until_ok {f g : FuncId} {cf cg : List PV} {vs vs' : List Bytes} {sd sd' : Bytes} {i j : Int} {x : Bytes} (hf : EvP Tryz.prog f (T vs sd i :: cf) (.tup [.s x, T vs' sd' j, E 0])) (hg : EvP Tryz.prog g (.s x :: cg) (.b true)) : EvP Tryz.prog 40 [T vs sd i, .fc f [] cf, .fc g [] cg] (.tup [.s x, T vs' sd' j, E 0]) := by
  refine EvP.w mixed Tryz.call40 Tryz.func40 rfl (by cbv) (by cbv) rfl ?_
  simp only [go_sem, seval, Bool.not_true, Bool.not_false]
  repeat' (first | (simp only [go_sem, seval, Bool.not_true, Bool.not_false]) | (refine CR_pure hf (pvA_map _ _) ?_) | (refine CR_pure hg (pvA_map _ _) ?_) | (refine loop_unroll' ?_) | (simp (disch := omega) only [IntWalk.i64_in, IntWalk.u64_in]) | (with_reducible refine CC.T (by assumption) ?_) | (with_reducible refine CC.F (by assumption) ?_) | (with_reducible refine CC.bT (by assumption) ?_) | (with_reducible refine CC.bF (by assumption) ?_) | (with_reducible refine GB.T (by assumption) ?_) | (with_reducible refine GB.F (by assumption) ?_) | (with_reducible refine GB.bT (by assumption) ?_) | (with_reducible refine GB.bF (by assumption) ?_) | (with_reducible refine CC.dT (by omega) ?_) | (with_reducible refine CC.dF (by omega) ?_) | (with_reducible refine CC.eT (by omega) ?_) | (with_reducible refine CC.eF (by omega) ?_) | (with_reducible refine GB.dT (by omega) ?_) | (with_reducible refine GB.dF (by omega) ?_) | (with_reducible refine GB.eT (by omega) ?_) | (with_reducible refine GB.eF (by omega) ?_) | (with_reducible refine CC.nT (by omega) ?_) | (with_reducible refine CC.nF (by omega) ?_) | (with_reducible refine CC.bb (fun hc => ?_) (fun hc => ?_)) | (with_reducible refine GB.bb (fun hc => ?_) (fun hc => ?_)) | (with_reducible refine CC.d (fun hc => ?_) (fun hc => ?_)) | (with_reducible refine CC.e (fun hc => ?_) (fun hc => ?_)) | (with_reducible refine CC.n (fun hc => ?_) (fun hc => ?_)) | (with_reducible refine CC.mk (fun hc => ?_) (fun hc => ?_)) | (with_reducible refine GB.d (fun hc => ?_) (fun hc => ?_)) | (with_reducible refine GB.e (fun hc => ?_) (fun hc => ?_)) | (with_reducible refine GB.n (fun hc => ?_) (fun hc => ?_)) | (with_reducible refine GB.mk (fun hc => ?_) (fun hc => ?_)) | (with_reducible refine And.intro (by first | omega | decide) ?_) | omega | decide | fail)
  all_goals skip
end Go.Proofs.YtpihmkhmhkopdaaGreatDoor
