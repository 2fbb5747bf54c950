/-
  THE LAW, WALKED: IssuerkeyOrders answers true. Own work.
-/
import Derived.Test.YtpihmkhmhkopdaaGreatDoorV0
import Derived.Test.YtpihmkhmhkopdaaGreatDoorV23
import Derived.Test.YtpihmkhmhkopdaaGreatDoorM3
set_option linter.all false
namespace Go.Proofs.YtpihmkhmhkopdaaGreatDoor
open Go Go.Dom Go.Num
set_option maxRecDepth 100000
set_option maxHeartbeats 16000000

theorem parCheck_ok (p : Par) (hs : p.short) : EvP Tryz.prog 25 [p.pv] (E (parE p)) := by
  by_cases h : p.nums.all validN = true
  · exact parGood p h hs
  · have h : p.nums.all validN = false := by simpa using h
    have e : parE p = 3 := by unfold parE; rw [h]; rfl
    rw [e]; exact parBad p h
/-- What a key that fits is. -/
structure Fit (k : Key) (P Q : Bytes) : Prop where
  o : k.o = []
  tr : Trap k.m [] P Q
  all : ∀ y ∈ k.bases, rHas k.m [] (bOf y) = true ∧ (if nOf y == 0 then sqB P Q (bOf y) else genB P Q (bOf y)) = true
theorem fit_of {k : Key} {P Q : Bytes} {ke : Int} (h : fitsE ke k P Q = 0) : Fit k P Q := by
  unfold fitsE at h
  split at h
  · contradiction
  · split at h
    · contradiction
    · rename_i h2
      have tr := rCheck0 (Classical.not_not.1 h2)
      split at h
      · cases h
      · rename_i h3
        have ho := tr.o
        rw [ho] at tr h3
        refine ⟨ho, tr, fun y hy => ?_⟩
        simp only [Bool.not_eq_true] at h3
        have hb := List.any_eq_false.1 h3 y hy
        simp only [fBad, Bool.or_eq_true, Bool.not_eq_true', decide_eq_true_eq, not_or, Bool.not_eq_false, Bool.and_eq_true, Classical.not_not] at hb
        obtain ⟨⟨h4, h5⟩, -⟩ := hb
        exact ⟨(el0 h4).2.2, h5⟩
theorem rHas_gcd {m x : Bytes} (h : rHas m [] x = true) : Nat.gcd (num x) (num m) = 1 := by
  simp only [rHas, Bool.and_eq_true, decide_eq_true_eq] at h
  exact h.2
theorem gcd_mod' (a b : Nat) : Nat.gcd (a % b) b = Nat.gcd a b := by
  rw [← Nat.gcd_rec, Nat.gcd_comm]
theorem rHas_pow {m s : Bytes} (lm : m.length ≤ 8) (h : rHas m [] s = true) (i : Nat) : rHas m [] (bts (num s ^ i % num m)) = true := by
  obtain ⟨vs, ls, vm, m8⟩ := rHas_num h
  have hn := num8 lm
  have hlt : num s ^ i % num m < num m := Nat.mod_lt _ (by omega)
  have hg : Nat.gcd (num s ^ i % num m) (num m) = 1 := by
    rw [gcd_mod']
    exact Nat.Coprime.pow_left i (rHas_gcd h)
  have hz : num s ^ i % num m ≠ 0 := fun e => by rw [e, Nat.gcd_zero_left] at hg; omega
  have hne : (bts (num s ^ i % num m) == ([] : Bytes)) = false := nilF hz
  simp only [rHas, rHas_good h, vN (show num s ^ i % num m < 18446744073709551616 by omega), hne, num_bts, hlt, hg, decide_true, Bool.and_self, Bool.not_false]
def rowL (S M n : Nat) : List AV := (List.range n).map fun i => AV.v (N (S ^ i % M))
theorem rowL_succ (S M n : Nat) : rowL S M n ++ [.v (N (S ^ n % M))] = rowL S M (n + 1) := by simp [rowL, List.range_succ]
theorem rowL_len (S M n : Nat) : (rowL S M n).length = n := by simp [rowL]
theorem rowL_take (S M n : Nat) : List.take n (rowL S M n) = rowL S M n := List.take_of_length_le (by rw [rowL_len]; exact Nat.le_refl _)
theorem rowL_one (S M n : Nat) : (rowL S M n).all AV.one = true := by simp [rowL, AV.one, PV.one, List.all_eq_true]
theorem rowL_bd (S M n N' : Nat) : (∀ y, y ∈ rowL S M n → y.bd N' = true) = True := by
  simp only [eq_iff_iff, iff_true]; intro y hy
  obtain ⟨c, -, rfl⟩ := List.mem_map.1 hy; rfl
def powL (S M n : Nat) : List Bytes := (List.range n).map fun i => bts (S ^ i % M)
theorem rowL_view (hf : Nat → Option AObj) (f S M n : Nat) : mapO (view hf (f + 1)) (rowL S M n) = some ((powL S M n).map .s) := by
  have : rowL S M n = ((powL S M n).map PV.s).map .v := by simp [rowL, powL, List.map_map, Function.comp_def]
  rw [this, mapO_view_v]
theorem rowL_viewN (hf : Nat → Option AObj) (f S M n : Nat) : (rowL S M n).flatMap (viewN hf (f + 1)) = [] := by
  unfold rowL
  induction List.range n with
  | nil => rfl
  | cons x l ih => simp_all [viewN]
theorem powL_chunk (S M n : Nat) : chunk 1 n ((powL S M n).map PV.s) = (powL S M n).map PV.s := by
  have := chunk1 ((powL S M n).map PV.s)
  rwa [List.length_map, show (powL S M n).length = n by simp [powL]] at this
theorem CR_rowL {A : AX → AS → Prop} {nx : Nat} {bf : Option (List Nat)} {nn : Nat} {d : Option Nat} {ops : List SOp} {k : Nat} {s : AS} {tr : List (Nat × List Nat × List Nat)} {K : List Fr} {nm : Nat} {f : FuncId} {n ver S M m : Nat} {gr : Bool} {el : Option TypeId} {r y : PV}
    (he : EvP Tryz.prog f [.sl ((powL S M m).map .s), y] r) (hr : r.flat = true) (hg : hget s.h n = some ⟨ver, rowL S M m, gr, el⟩) (hK : RW Tryz.prog A nx bf nn ops (k + 1) (s.upd d (.v r) []) (trU bf k [n] [] tr) K) :
    CR Tryz.prog A nx bf nn nm (.v (.fn (.func f))) [.rs n ver 0 m 1, .v y] d ops k s tr K := by
  have e1 : view (hget s.h) 9 (.rs n ver 0 m 1) = some (.sl ((powL S M m).map .s)) := by
    simp [view, hg, rowL_len, rowL_one, rowL_take, rowL_view, powL_chunk]
  have e2 : viewN (hget s.h) 9 (.rs n ver 0 m 1) = [n] := by
    simp [viewN, hg, rowL_take, rowL_viewN]
  refine CR_view he (by simp only [mapO, e1]; rfl) hr ?_
  have : [AV.rs n ver 0 m 1, AV.v y].flatMap (viewN (hget s.h) 9) = [n] := by rw [List.flatMap_cons, e2]; rfl
  rw [this]; exact hK
theorem getD_VS {l : List Bytes} {i : Nat} (h : i < l.length) : (List.map AV.v (List.map PV.s l)).getD i .u = .v (.s (l.getD i [])) := by
  simp [List.getD_eq_getElem?_getD, h]
theorem key_r {pe : Int} {k : Key} (h : keyE pe k = 0) : 2 ≤ k.r.length := by
  unfold keyE at h
  split at h
  · contradiction
  split at h
  · cases h
  split at h
  · cases h
  split at h
  · cases h
  split at h
  · cases h
  split at h
  · cases h
  · omega
theorem fits_ke {ke : Int} {k : Key} {P Q : Bytes} (h : fitsE ke k P Q = 0) : ke = 0 := by
  unfold fitsE at h
  split at h
  · contradiction
  · rename_i g; exact Classical.not_not.1 g
theorem law_ok (p : Par) (k : Key) (P Q : Bytes) (hr : k.r.length < 4611686018427387904) : EvP Tryz.prog 3 [p.pv, k.pv, G P Q] (.b true) := by
  have hf := Few_ok p k hr
  have haw := awake_ok
  by_cases h1 : fewB p k = true
  case neg =>
    have h1 : fewB p k = false := by simpa using h1
    rw [h1] at hf
    clear hr
    unfold Par.pv Key.pv at *
    refine EvP.w mixed Tryz.call3 Tryz.func3 rfl (by cbv) (by cbv) rfl ?_
    simp only [go_sem, seval, Bool.not_true, Bool.not_false]
    repeat' (first | (simp only [go_sem, seval, Bool.not_true, Bool.not_false]) | (refine CR_pure (hf) rfl ?_) | (refine CR_pure (haw) rfl ?_) | (simp (disch := omega) only [IntWalk.i64_in, IntWalk.u64_in]) | (with_reducible refine CC.T (by assumption) ?_) | (with_reducible refine CC.F (by assumption) ?_) | (with_reducible refine CC.bT (by assumption) ?_) | (with_reducible refine CC.bF (by assumption) ?_) | (with_reducible refine GB.T (by assumption) ?_) | (with_reducible refine GB.F (by assumption) ?_) | (with_reducible refine GB.bT (by assumption) ?_) | (with_reducible refine GB.bF (by assumption) ?_) | (with_reducible refine CC.dT (by omega) ?_) | (with_reducible refine CC.dF (by omega) ?_) | (with_reducible refine CC.eT (by omega) ?_) | (with_reducible refine CC.eF (by omega) ?_) | (with_reducible refine GB.dT (by omega) ?_) | (with_reducible refine GB.dF (by omega) ?_) | (with_reducible refine GB.eT (by omega) ?_) | (with_reducible refine GB.eF (by omega) ?_) | (with_reducible refine CC.nT (by omega) ?_) | (with_reducible refine CC.nF (by omega) ?_) | (with_reducible refine CC.bb (fun hc => ?_) (fun hc => ?_)) | (with_reducible refine GB.bb (fun hc => ?_) (fun hc => ?_)) | (with_reducible refine CC.d (fun hc => ?_) (fun hc => ?_)) | (with_reducible refine CC.e (fun hc => ?_) (fun hc => ?_)) | (with_reducible refine CC.n (fun hc => ?_) (fun hc => ?_)) | (with_reducible refine CC.mk (fun hc => ?_) (fun hc => ?_)) | (with_reducible refine GB.d (fun hc => ?_) (fun hc => ?_)) | (with_reducible refine GB.e (fun hc => ?_) (fun hc => ?_)) | (with_reducible refine GB.n (fun hc => ?_) (fun hc => ?_)) | (with_reducible refine GB.mk (fun hc => ?_) (fun hc => ?_)) | (with_reducible refine And.intro (by first | omega | decide) ?_) | omega | decide | fail)
  by_cases h2 : k.m.length ≤ 2
  case neg =>
    rw [h1] at hf
    clear hr
    unfold Par.pv Key.pv at *
    refine EvP.w mixed Tryz.call3 Tryz.func3 rfl (by cbv) (by cbv) rfl ?_
    simp only [go_sem, seval, Bool.not_true, Bool.not_false]
    repeat' (first | (simp only [go_sem, seval, Bool.not_true, Bool.not_false]) | (refine CR_pure (hf) rfl ?_) | (refine CR_pure (haw) rfl ?_) | (simp (disch := omega) only [IntWalk.i64_in, IntWalk.u64_in]) | (with_reducible refine CC.T (by assumption) ?_) | (with_reducible refine CC.F (by assumption) ?_) | (with_reducible refine CC.bT (by assumption) ?_) | (with_reducible refine CC.bF (by assumption) ?_) | (with_reducible refine GB.T (by assumption) ?_) | (with_reducible refine GB.F (by assumption) ?_) | (with_reducible refine GB.bT (by assumption) ?_) | (with_reducible refine GB.bF (by assumption) ?_) | (with_reducible refine CC.dT (by omega) ?_) | (with_reducible refine CC.dF (by omega) ?_) | (with_reducible refine CC.eT (by omega) ?_) | (with_reducible refine CC.eF (by omega) ?_) | (with_reducible refine GB.dT (by omega) ?_) | (with_reducible refine GB.dF (by omega) ?_) | (with_reducible refine GB.eT (by omega) ?_) | (with_reducible refine GB.eF (by omega) ?_) | (with_reducible refine CC.nT (by omega) ?_) | (with_reducible refine CC.nF (by omega) ?_) | (with_reducible refine CC.bb (fun hc => ?_) (fun hc => ?_)) | (with_reducible refine GB.bb (fun hc => ?_) (fun hc => ?_)) | (with_reducible refine CC.d (fun hc => ?_) (fun hc => ?_)) | (with_reducible refine CC.e (fun hc => ?_) (fun hc => ?_)) | (with_reducible refine CC.n (fun hc => ?_) (fun hc => ?_)) | (with_reducible refine CC.mk (fun hc => ?_) (fun hc => ?_)) | (with_reducible refine GB.d (fun hc => ?_) (fun hc => ?_)) | (with_reducible refine GB.e (fun hc => ?_) (fun hc => ?_)) | (with_reducible refine GB.n (fun hc => ?_) (fun hc => ?_)) | (with_reducible refine GB.mk (fun hc => ?_) (fun hc => ?_)) | (with_reducible refine And.intro (by first | omega | decide) ?_) | omega | decide | fail)
  obtain ⟨sp, sn, sr⟩ : shortB p = true ∧ k.name.length ≤ 60 ∧ k.r.length ≤ 20 := by
    simp only [fewB, Bool.and_eq_true, decide_eq_true_eq] at h1
    exact ⟨h1.1.1.1.1.1.1, by omega, by omega⟩
  rw [h1] at hf
  have hck := keyCheck_ok p k _ (parCheck_ok p (short_of sp)) (by omega) sn sr
  have hft := Fits_ok p k P Q _ hck (by omega) sr
  clear hck
  have hk2 := key_r (pe := parE p) (k := k)
  generalize keyE (parE p) k = ke at *
  by_cases h3 : fitsE ke k P Q = 0
  case neg =>
    generalize fitsE ke k P Q = fe at *
    clear hr
    unfold Par.pv Key.pv at *
    refine EvP.w mixed Tryz.call3 Tryz.func3 rfl (by cbv) (by cbv) rfl ?_
    simp only [go_sem, seval, Bool.not_true, Bool.not_false]
    repeat' (first | (simp only [go_sem, seval, Bool.not_true, Bool.not_false]) | (refine CR_pure (hf) rfl ?_) | (refine CR_pure (haw) rfl ?_) | (refine CR_pure (hft) rfl ?_) | (simp (disch := omega) only [IntWalk.i64_in, IntWalk.u64_in]) | (with_reducible refine CC.T (by assumption) ?_) | (with_reducible refine CC.F (by assumption) ?_) | (with_reducible refine CC.bT (by assumption) ?_) | (with_reducible refine CC.bF (by assumption) ?_) | (with_reducible refine GB.T (by assumption) ?_) | (with_reducible refine GB.F (by assumption) ?_) | (with_reducible refine GB.bT (by assumption) ?_) | (with_reducible refine GB.bF (by assumption) ?_) | (with_reducible refine CC.dT (by omega) ?_) | (with_reducible refine CC.dF (by omega) ?_) | (with_reducible refine CC.eT (by omega) ?_) | (with_reducible refine CC.eF (by omega) ?_) | (with_reducible refine GB.dT (by omega) ?_) | (with_reducible refine GB.dF (by omega) ?_) | (with_reducible refine GB.eT (by omega) ?_) | (with_reducible refine GB.eF (by omega) ?_) | (with_reducible refine CC.nT (by omega) ?_) | (with_reducible refine CC.nF (by omega) ?_) | (with_reducible refine CC.bb (fun hc => ?_) (fun hc => ?_)) | (with_reducible refine GB.bb (fun hc => ?_) (fun hc => ?_)) | (with_reducible refine CC.d (fun hc => ?_) (fun hc => ?_)) | (with_reducible refine CC.e (fun hc => ?_) (fun hc => ?_)) | (with_reducible refine CC.n (fun hc => ?_) (fun hc => ?_)) | (with_reducible refine CC.mk (fun hc => ?_) (fun hc => ?_)) | (with_reducible refine GB.d (fun hc => ?_) (fun hc => ?_)) | (with_reducible refine GB.e (fun hc => ?_) (fun hc => ?_)) | (with_reducible refine GB.n (fun hc => ?_) (fun hc => ?_)) | (with_reducible refine GB.mk (fun hc => ?_) (fun hc => ?_)) | (with_reducible refine And.intro (by first | omega | decide) ?_) | omega | decide | fail)
  have ft := fit_of h3
  have hr2 := hk2 (fits_ke h3)
  clear hk2
  rw [h3] at hft
  clear h3 hr
  obtain ⟨name, m, o, z, s, r, u, h⟩ := k
  simp only at *
  obtain rfl := ft.o
  have tr := ft.tr
  have hS : rHas m [] s = true ∧ genB P Q s = true := ft.all (bas 2 s) (by simp [Key.bases])
  have hZ : ∀ y ∈ z :: u :: h :: r, rHas m [] y = true ∧ sqB P Q y = true := by
    intro y hy
    simp only [List.mem_cons] at hy
    have key : ∀ y, genB P Q y = true → sqB P Q y = true := by
      intro y hg
      simp only [genB, Bool.and_eq_true] at hg
      exact hg.1.1
    rcases hy with rfl | rfl | rfl | hy
    · exact ft.all (bas 0 y) (by simp [Key.bases])
    · have := ft.all (bas 1 y) (by simp [Key.bases]); exact ⟨this.1, key y this.2⟩
    · have := ft.all (bas 1 y) (by simp [Key.bases]); exact ⟨this.1, key y this.2⟩
    · exact ft.all (bas 0 y) (by unfold Key.bases; simp only [List.mem_cons, List.mem_map]; exact .inr (.inr (.inr (.inr ⟨y, hy, rfl⟩))))
  obtain ⟨hS1, hS2⟩ := hS
  obtain ⟨vs, ls, vm, m8⟩ := rHas_num hS1
  have hmul : ∀ i, EvP Tryz.prog 7 [G m [], N (num s ^ i % num m), .s s] (.tup [N (num s ^ (i + 1) % num m), E 0]) := by
    intro i
    have := pwMul_ok (m := m) (a := bts (num s ^ i % num m)) (b := s) (by omega) (rHas_pow (by omega) hS1 i) hS1
    rwa [num_bts, Nat.mod_mul_mod, ← Nat.pow_succ] at this
  have hmul0 : EvP Tryz.prog 7 [G m [], N 1, .s s] (.tup [N (num s ^ 1 % num m), E 0]) := by
    have := hmul 0
    rwa [Nat.pow_zero, Nat.mod_eq_of_lt (show 1 < num m by omega)] at this
  obtain ⟨S, hSd⟩ : ∃ S, S = num s := ⟨_, rfl⟩
  obtain ⟨M, hMd⟩ : ∃ M, M = num m := ⟨_, rfl⟩
  rw [← hSd, ← hMd] at hmul hmul0
  have hrow1 : [AV.v (N 1)] = rowL S M 1 := by
    simp [rowL, List.range_succ, Nat.mod_eq_of_lt (show 1 < M by omega)]
  unfold Par.pv Key.pv at *
  refine EvP.w mixed Tryz.call3 Tryz.func3 rfl (by cbv) (by cbv) rfl ?_
  simp only [go_sem, seval, Bool.not_true, Bool.not_false , one_eq]
  repeat' (first | (simp only [go_sem, seval, Bool.not_true, Bool.not_false , one_eq]) | (refine CR_pure (hf) rfl ?_) | (refine CR_pure (haw) rfl ?_) | (refine CR_pure (hft) rfl ?_) | (simp (disch := omega) only [IntWalk.i64_in, IntWalk.u64_in]) | (with_reducible refine CC.T (by assumption) ?_) | (with_reducible refine CC.F (by assumption) ?_) | (with_reducible refine CC.bT (by assumption) ?_) | (with_reducible refine CC.bF (by assumption) ?_) | (with_reducible refine GB.T (by assumption) ?_) | (with_reducible refine GB.F (by assumption) ?_) | (with_reducible refine GB.bT (by assumption) ?_) | (with_reducible refine GB.bF (by assumption) ?_) | (with_reducible refine CC.dT (by omega) ?_) | (with_reducible refine CC.dF (by omega) ?_) | (with_reducible refine CC.eT (by omega) ?_) | (with_reducible refine CC.eF (by omega) ?_) | (with_reducible refine GB.dT (by omega) ?_) | (with_reducible refine GB.dF (by omega) ?_) | (with_reducible refine GB.eT (by omega) ?_) | (with_reducible refine GB.eF (by omega) ?_) | (with_reducible refine CC.nT (by omega) ?_) | (with_reducible refine CC.nF (by omega) ?_) | (with_reducible refine CC.bb (fun hc => ?_) (fun hc => ?_)) | (with_reducible refine GB.bb (fun hc => ?_) (fun hc => ?_)) | (with_reducible refine CC.d (fun hc => ?_) (fun hc => ?_)) | (with_reducible refine CC.e (fun hc => ?_) (fun hc => ?_)) | (with_reducible refine CC.n (fun hc => ?_) (fun hc => ?_)) | (with_reducible refine CC.mk (fun hc => ?_) (fun hc => ?_)) | (with_reducible refine GB.d (fun hc => ?_) (fun hc => ?_)) | (with_reducible refine GB.e (fun hc => ?_) (fun hc => ?_)) | (with_reducible refine GB.n (fun hc => ?_) (fun hc => ?_)) | (with_reducible refine GB.mk (fun hc => ?_) (fun hc => ?_)) | (with_reducible refine And.intro (by first | omega | decide) ?_) | omega | decide | fail)
  refine loop_unroll' ?_
  repeat' (first | (simp only [go_sem, seval, Bool.not_true, Bool.not_false , one_eq]) | (refine CR_pure (hf) rfl ?_) | (refine CR_pure (haw) rfl ?_) | (refine CR_pure (hft) rfl ?_) | (refine CR_pure (hmul0) rfl ?_) | (simp (disch := omega) only [IntWalk.i64_in, IntWalk.u64_in]) | (with_reducible refine CC.T (by assumption) ?_) | (with_reducible refine CC.F (by assumption) ?_) | (with_reducible refine CC.bT (by assumption) ?_) | (with_reducible refine CC.bF (by assumption) ?_) | (with_reducible refine GB.T (by assumption) ?_) | (with_reducible refine GB.F (by assumption) ?_) | (with_reducible refine GB.bT (by assumption) ?_) | (with_reducible refine GB.bF (by assumption) ?_) | (with_reducible refine CC.dT (by omega) ?_) | (with_reducible refine CC.dF (by omega) ?_) | (with_reducible refine CC.eT (by omega) ?_) | (with_reducible refine CC.eF (by omega) ?_) | (with_reducible refine GB.dT (by omega) ?_) | (with_reducible refine GB.dF (by omega) ?_) | (with_reducible refine GB.eT (by omega) ?_) | (with_reducible refine GB.eF (by omega) ?_) | (with_reducible refine CC.nT (by omega) ?_) | (with_reducible refine CC.nF (by omega) ?_) | (with_reducible refine CC.bb (fun hc => ?_) (fun hc => ?_)) | (with_reducible refine GB.bb (fun hc => ?_) (fun hc => ?_)) | (with_reducible refine CC.d (fun hc => ?_) (fun hc => ?_)) | (with_reducible refine CC.e (fun hc => ?_) (fun hc => ?_)) | (with_reducible refine CC.n (fun hc => ?_) (fun hc => ?_)) | (with_reducible refine CC.mk (fun hc => ?_) (fun hc => ?_)) | (with_reducible refine GB.d (fun hc => ?_) (fun hc => ?_)) | (with_reducible refine GB.e (fun hc => ?_) (fun hc => ?_)) | (with_reducible refine GB.n (fun hc => ?_) (fun hc => ?_)) | (with_reducible refine GB.mk (fun hc => ?_) (fun hc => ?_)) | (with_reducible refine And.intro (by first | omega | decide) ?_) | omega | decide | fail)
  refine loop_run (α := Nat) (fun j => 402 - j) (fun j => ⟨[(4, .p 1001 0 0), (5, .p 1002 0 0), (7, .rs 1038 j 0 (j + 1) 1), (8, .v (N (S ^ (j + 1) % M))), (9, .v (.i .i64 (j + 1 : Nat)))], [(1038, ⟨j, rowL S M (j + 1), true, some 22⟩), (1002, ⟨0, [.v (.s P), .v (.s Q)], false, none⟩), (1001, ⟨0, [.v (.s name), .v (.s m), .v (.s []), .v (.s z), .v (.s s), .v (.sl (r.map .s)), .v (.s u), .v (.s h)], false, none⟩)], 1055⟩) (fun j => j ≤ 400 ∧ ∀ i, 0 < i → i < j + 1 → S ^ i % M ≠ 1) 0 (fun _ => Nat.le_of_ble_eq_true rfl) ⟨by omega, fun i h1 h2 => by omega⟩ ?_ ?_
  · refine AS.Le.of (by decide) ?_ ?_ <;> simp [LeT, LeH, tget, hget, AV.bd, AV.bd.bdL, u8, ← hrow1]
  · rintro j ⟨hj, hmin⟩ R hR
    have hmj := hmul (j + 1)
    have hx0 : ∀ _ : True, (((j + 1 : Nat) : Int) == 0) = false := fun _ => by rw [beq_eq_false_iff_ne]; omega
    have hx1 : ∀ _ : True, decide (((j + 1 : Nat) : Int) < 70000) = true := fun _ => decide_eq_true (by omega)
    have hw1 : ∀ _ : True, IntKind.i64.wrap (((j + 1 : Nat) : Int) + 1) = ((j + 1 + 1 : Nat) : Int) := fun _ => by rw [IntWalk.i64_in _ (by omega)]; rfl
    have r1 := rowL_len S M (j + 1)
    have r2 := rowL_take S M (j + 1)
    have r3 := rowL_succ S M (j + 1)
    by_cases hone : S ^ (j + 1) % M = 1
    · have hb : ∀ _ : True, (bts (S ^ (j + 1) % M) == bts 1) = true := fun _ => by rw [btsEq]; exact decide_eq_true hone
      have hjac : ∀ {y : Bytes}, sqB P Q y = true → jac (num y) (num P) = 1 ∧ jac (num y) (num Q) = 1 := by
        intro y h; simpa only [sqB, Bool.and_eq_true, decide_eq_true_eq] using h
      obtain ⟨⟨hg1, hg2⟩, hg3⟩ : (sqB P Q s = true ∧ num s % num P ≠ 1) ∧ num s % num Q ≠ 1 := by
        simpa only [genB, Bool.and_eq_true, decide_eq_true_eq] using hS2
      obtain ⟨j1, j2⟩ := hjac hg1
      have hM16 : num m < 65536 := Nat.lt_of_lt_of_le (num_lt m) (Nat.pow_le_pow_right (by decide) h2)
      obtain ⟨ho1, ho2⟩ := orders (P := num P) (Q := num Q) (N := num m) (S := num s) (n := j + 1) tr.mul hM16 tr.sp tr.sq tr.ne j1 j2 hg2 hg3 (by omega) (by omega) (by rw [← hSd, ← hMd]; exact hone) (fun i h1 h2 => by rw [← hSd, ← hMd]; exact hmin i h1 h2)
      have hin : ∀ y ∈ z :: u :: h :: r, ((powL S M (j + 1)).any fun x => y == x) = true := by
        intro y hy
        obtain ⟨g1, g2⟩ := hZ y hy
        obtain ⟨vy, ly, -, -⟩ := rHas_num g1
        obtain ⟨k1, k2⟩ := hjac g2
        obtain ⟨i, hi, e⟩ := ho2 (num y) ly k1 k2
        refine List.any_eq_true.2 ⟨y, List.mem_map.2 ⟨i, List.mem_range.2 hi, ?_⟩, beq_self_eq_true y⟩
        rw [hSd, hMd, e, bts_of vy]
      have hSp := Small_ok P
      have hSq := Small_ok Q
      rw [tr.vp, decide_eq_true tr.lp] at hSp
      rw [tr.vq, decide_eq_true tr.lq] at hSq
      simp only [Bool.and_self, if_true] at hSp hSq
      have p5 := safe_ge tr.sp
      have q5 := safe_ge tr.sq
      have hPl := num8 tr.lp
      have hQl := num8 tr.lq
      have hcon := fun y => ContainsN_ok (powL S M (j + 1)) y (by simp [powL]; omega)
      have d1 : ((num P : Int) - 1).tdiv 2 = (((num P - 1) / 2 : Nat) : Int) := by rw [Int.tdiv_eq_ediv_of_nonneg (by omega)]; omega
      have d2 : ((num Q : Int) - 1).tdiv 2 = (((num Q - 1) / 2 : Nat) : Int) := by rw [Int.tdiv_eq_ediv_of_nonneg (by omega)]; omega
      have hwq : ∀ _ : True, IntKind.u64.wrap (IntKind.u64.wrap (((num P : Int) - 1).tdiv 2) * IntKind.u64.wrap (((num Q : Int) - 1).tdiv 2)) = ((j + 1 : Nat) : Int) := fun _ => by
        have w1 : IntKind.u64.wrap (((num P - 1) / 2 : Nat) : Int) = (((num P - 1) / 2 : Nat) : Int) := IntWalk.u64_in _ (by omega)
        have w2 : IntKind.u64.wrap (((num Q - 1) / 2 : Nat) : Int) = (((num Q - 1) / 2 : Nat) : Int) := IntWalk.u64_in _ (by omega)
        rw [d1, d2, w1, w2, ← Int.natCast_mul, ← ho1]
        exact IntWalk.u64_in _ (by omega)
      have hwq2 : ∀ _ : True, IntKind.u64.wrap (((num P : Int) - 1).tdiv 2 * ((num Q : Int) - 1).tdiv 2) = ((j + 1 : Nat) : Int) := fun _ => by
        rw [d1, d2, ← Int.natCast_mul, ← ho1]
        exact IntWalk.u64_in _ (by omega)
      have hr0 : ∀ _ : True, (r.length = 0) = False := fun _ => by rw [eq_iff_iff, iff_false]; omega
      obtain ⟨ys, hys⟩ : ∃ ys, ys = z :: u :: h :: r := ⟨_, rfl⟩
      have hyl : ys.length = 3 + r.length := by rw [hys]; simp; omega
      have hL : ∀ _ : True, (AV.v (.s z) :: AV.v (.s u) :: AV.v (.s h) :: List.map AV.v (List.flatMap PV.cells (List.map PV.s r))) = List.map AV.v (List.map PV.s ys) := fun _ => by rw [flat_S, hys]; rfl
      rw [← hys] at hin
      have hlm : ∀ i, i < ys.length → ((powL S M (j + 1)).any fun x => ys.getD i [] == x) = true := fun i hi => hin _ (getD_mem hi)
      clear hin hys
      repeat' (first | (simp only [go_sem, seval, Bool.not_true, Bool.not_false , one_eq, hx0 trivial, hx1 trivial, hw1 trivial, hb trivial, r1, r2, r3, hwq trivial, hwq2 trivial, bne_self_eq_false, hr0 trivial]) | (refine CR_pure (haw) rfl ?_) | (refine CR_pure (hSp) rfl ?_) | (refine CR_pure (hSq) rfl ?_) | (simp (disch := omega) only [IntWalk.i64_in, IntWalk.u64_in]) | (with_reducible refine CC.T (by assumption) ?_) | (with_reducible refine CC.F (by assumption) ?_) | (with_reducible refine CC.bT (by assumption) ?_) | (with_reducible refine CC.bF (by assumption) ?_) | (with_reducible refine GB.T (by assumption) ?_) | (with_reducible refine GB.F (by assumption) ?_) | (with_reducible refine GB.bT (by assumption) ?_) | (with_reducible refine GB.bF (by assumption) ?_) | (with_reducible refine CC.dT (by omega) ?_) | (with_reducible refine CC.dF (by omega) ?_) | (with_reducible refine CC.eT (by omega) ?_) | (with_reducible refine CC.eF (by omega) ?_) | (with_reducible refine GB.dT (by omega) ?_) | (with_reducible refine GB.dF (by omega) ?_) | (with_reducible refine GB.eT (by omega) ?_) | (with_reducible refine GB.eF (by omega) ?_) | (with_reducible refine CC.nT (by omega) ?_) | (with_reducible refine CC.nF (by omega) ?_) | (with_reducible refine CC.bb (fun hc => ?_) (fun hc => ?_)) | (with_reducible refine GB.bb (fun hc => ?_) (fun hc => ?_)) | (with_reducible refine CC.d (fun hc => ?_) (fun hc => ?_)) | (with_reducible refine CC.e (fun hc => ?_) (fun hc => ?_)) | (with_reducible refine CC.n (fun hc => ?_) (fun hc => ?_)) | (with_reducible refine CC.mk (fun hc => ?_) (fun hc => ?_)) | (with_reducible refine GB.d (fun hc => ?_) (fun hc => ?_)) | (with_reducible refine GB.e (fun hc => ?_) (fun hc => ?_)) | (with_reducible refine GB.n (fun hc => ?_) (fun hc => ?_)) | (with_reducible refine GB.mk (fun hc => ?_) (fun hc => ?_)) | (with_reducible refine And.intro (by first | omega | decide) ?_) | omega | decide | fail)
      refine ⟨⟨fun x hx => cells_S hx, fun y hy => one_SA hy, by omega, by omega⟩, ?_⟩
      repeat' (first | (simp only [go_sem, seval, Bool.not_true, Bool.not_false , hL trivial]) | (simp (disch := omega) only [IntWalk.i64_in, IntWalk.u64_in]) | (with_reducible refine CC.T (by assumption) ?_) | (with_reducible refine CC.F (by assumption) ?_) | (with_reducible refine CC.bT (by assumption) ?_) | (with_reducible refine CC.bF (by assumption) ?_) | (with_reducible refine GB.T (by assumption) ?_) | (with_reducible refine GB.F (by assumption) ?_) | (with_reducible refine GB.bT (by assumption) ?_) | (with_reducible refine GB.bF (by assumption) ?_) | (with_reducible refine CC.dT (by omega) ?_) | (with_reducible refine CC.dF (by omega) ?_) | (with_reducible refine CC.eT (by omega) ?_) | (with_reducible refine CC.eF (by omega) ?_) | (with_reducible refine GB.dT (by omega) ?_) | (with_reducible refine GB.dF (by omega) ?_) | (with_reducible refine GB.eT (by omega) ?_) | (with_reducible refine GB.eF (by omega) ?_) | (with_reducible refine CC.nT (by omega) ?_) | (with_reducible refine CC.nF (by omega) ?_) | (with_reducible refine CC.bb (fun hc => ?_) (fun hc => ?_)) | (with_reducible refine GB.bb (fun hc => ?_) (fun hc => ?_)) | (with_reducible refine CC.d (fun hc => ?_) (fun hc => ?_)) | (with_reducible refine CC.e (fun hc => ?_) (fun hc => ?_)) | (with_reducible refine CC.n (fun hc => ?_) (fun hc => ?_)) | (with_reducible refine CC.mk (fun hc => ?_) (fun hc => ?_)) | (with_reducible refine GB.d (fun hc => ?_) (fun hc => ?_)) | (with_reducible refine GB.e (fun hc => ?_) (fun hc => ?_)) | (with_reducible refine GB.n (fun hc => ?_) (fun hc => ?_)) | (with_reducible refine GB.mk (fun hc => ?_) (fun hc => ?_)) | (with_reducible refine And.intro (by first | omega | decide) ?_) | omega | decide | fail)
      refine loop_run (α := Nat) (fun i => ys.length - i) (fun i => ⟨[(7, .rs 1038 j 0 (j + 1) 1), (95, .rs 1101 0 0 (3 + r.length) 1), (96, .v (.i .i64 (3 + r.length : Nat))), (97, .v (.i .i64 (i : Nat)))], [(1038, ⟨j, rowL S M (j + 1), true, some 22⟩), (1101, ⟨0, List.map AV.v (List.map PV.s ys), true, some 22⟩)], _⟩) (fun i => i ≤ ys.length) 0 (fun _ => Nat.le_refl _) (Nat.zero_le _) ?_ ?_
      · (refine AS.Le.of (by first | decide | omega) ?_ ?_ <;> simp [LeT, LeH, tget, hget, AV.bd, AV.bd.bdL, u8, bd_cellsOf, bcells_bd, icells_bd])
        simp only [rowL_bd]
      · intro i hi R hR
        by_cases hlt : i < ys.length
        · have e1 := getD_VS hlt
          have hci := hcon (ys.getD i [])
          rw [hlm i hlt] at hci
          repeat' (first | (simp only [go_sem, seval, Bool.not_true, Bool.not_false , e1, hyl, List.length_map]) | (refine CR_rowL hci rfl rfl ?_) | (simp (disch := omega) only [IntWalk.i64_in, IntWalk.u64_in]) | (with_reducible refine CC.T (by assumption) ?_) | (with_reducible refine CC.F (by assumption) ?_) | (with_reducible refine CC.bT (by assumption) ?_) | (with_reducible refine CC.bF (by assumption) ?_) | (with_reducible refine GB.T (by assumption) ?_) | (with_reducible refine GB.F (by assumption) ?_) | (with_reducible refine GB.bT (by assumption) ?_) | (with_reducible refine GB.bF (by assumption) ?_) | (with_reducible refine CC.dT (by omega) ?_) | (with_reducible refine CC.dF (by omega) ?_) | (with_reducible refine CC.eT (by omega) ?_) | (with_reducible refine CC.eF (by omega) ?_) | (with_reducible refine GB.dT (by omega) ?_) | (with_reducible refine GB.dF (by omega) ?_) | (with_reducible refine GB.eT (by omega) ?_) | (with_reducible refine GB.eF (by omega) ?_) | (with_reducible refine CC.nT (by omega) ?_) | (with_reducible refine CC.nF (by omega) ?_) | (with_reducible refine CC.bb (fun hc => ?_) (fun hc => ?_)) | (with_reducible refine GB.bb (fun hc => ?_) (fun hc => ?_)) | (with_reducible refine CC.d (fun hc => ?_) (fun hc => ?_)) | (with_reducible refine CC.e (fun hc => ?_) (fun hc => ?_)) | (with_reducible refine CC.n (fun hc => ?_) (fun hc => ?_)) | (with_reducible refine CC.mk (fun hc => ?_) (fun hc => ?_)) | (with_reducible refine GB.d (fun hc => ?_) (fun hc => ?_)) | (with_reducible refine GB.e (fun hc => ?_) (fun hc => ?_)) | (with_reducible refine GB.n (fun hc => ?_) (fun hc => ?_)) | (with_reducible refine GB.mk (fun hc => ?_) (fun hc => ?_)) | (with_reducible refine And.intro (by first | omega | decide) ?_) | omega | decide | fail)
          refine hR (i + 1) (by omega) (by omega) _ ?_
          (refine AS.Le.of (by first | decide | omega) ?_ ?_ <;> simp [LeT, LeH, tget, hget, AV.bd, AV.bd.bdL, u8, bd_cellsOf, bcells_bd, icells_bd])
          simp only [rowL_bd]
        · obtain rfl : i = ys.length := by omega
          repeat' (first | (simp only [go_sem, seval, Bool.not_true, Bool.not_false , hyl]) | (refine CR_pure (haw) rfl ?_) | (simp (disch := omega) only [IntWalk.i64_in, IntWalk.u64_in]) | (with_reducible refine CC.T (by assumption) ?_) | (with_reducible refine CC.F (by assumption) ?_) | (with_reducible refine CC.bT (by assumption) ?_) | (with_reducible refine CC.bF (by assumption) ?_) | (with_reducible refine GB.T (by assumption) ?_) | (with_reducible refine GB.F (by assumption) ?_) | (with_reducible refine GB.bT (by assumption) ?_) | (with_reducible refine GB.bF (by assumption) ?_) | (with_reducible refine CC.dT (by omega) ?_) | (with_reducible refine CC.dF (by omega) ?_) | (with_reducible refine CC.eT (by omega) ?_) | (with_reducible refine CC.eF (by omega) ?_) | (with_reducible refine GB.dT (by omega) ?_) | (with_reducible refine GB.dF (by omega) ?_) | (with_reducible refine GB.eT (by omega) ?_) | (with_reducible refine GB.eF (by omega) ?_) | (with_reducible refine CC.nT (by omega) ?_) | (with_reducible refine CC.nF (by omega) ?_) | (with_reducible refine CC.bb (fun hc => ?_) (fun hc => ?_)) | (with_reducible refine GB.bb (fun hc => ?_) (fun hc => ?_)) | (with_reducible refine CC.d (fun hc => ?_) (fun hc => ?_)) | (with_reducible refine CC.e (fun hc => ?_) (fun hc => ?_)) | (with_reducible refine CC.n (fun hc => ?_) (fun hc => ?_)) | (with_reducible refine CC.mk (fun hc => ?_) (fun hc => ?_)) | (with_reducible refine GB.d (fun hc => ?_) (fun hc => ?_)) | (with_reducible refine GB.e (fun hc => ?_) (fun hc => ?_)) | (with_reducible refine GB.n (fun hc => ?_) (fun hc => ?_)) | (with_reducible refine GB.mk (fun hc => ?_) (fun hc => ?_)) | (with_reducible refine And.intro (by first | omega | decide) ?_) | omega | decide | fail)
    · have hb : ∀ _ : True, (bts (S ^ (j + 1) % M) == bts 1) = false := fun _ => by rw [btsEq]; exact decide_eq_false hone
      repeat' (first | (simp only [go_sem, seval, Bool.not_true, Bool.not_false , one_eq, hx0 trivial, hx1 trivial, hw1 trivial, hb trivial, r1, r2, r3]) | (refine CR_pure (haw) rfl ?_) | (refine CR_pure (hmj) rfl ?_) | (simp (disch := omega) only [IntWalk.i64_in, IntWalk.u64_in]) | (with_reducible refine CC.T (by assumption) ?_) | (with_reducible refine CC.F (by assumption) ?_) | (with_reducible refine CC.bT (by assumption) ?_) | (with_reducible refine CC.bF (by assumption) ?_) | (with_reducible refine GB.T (by assumption) ?_) | (with_reducible refine GB.F (by assumption) ?_) | (with_reducible refine GB.bT (by assumption) ?_) | (with_reducible refine GB.bF (by assumption) ?_) | (with_reducible refine CC.dT (by omega) ?_) | (with_reducible refine CC.dF (by omega) ?_) | (with_reducible refine CC.eT (by omega) ?_) | (with_reducible refine CC.eF (by omega) ?_) | (with_reducible refine GB.dT (by omega) ?_) | (with_reducible refine GB.dF (by omega) ?_) | (with_reducible refine GB.eT (by omega) ?_) | (with_reducible refine GB.eF (by omega) ?_) | (with_reducible refine CC.nT (by omega) ?_) | (with_reducible refine CC.nF (by omega) ?_) | (with_reducible refine CC.bb (fun hc => ?_) (fun hc => ?_)) | (with_reducible refine GB.bb (fun hc => ?_) (fun hc => ?_)) | (with_reducible refine CC.d (fun hc => ?_) (fun hc => ?_)) | (with_reducible refine CC.e (fun hc => ?_) (fun hc => ?_)) | (with_reducible refine CC.n (fun hc => ?_) (fun hc => ?_)) | (with_reducible refine CC.mk (fun hc => ?_) (fun hc => ?_)) | (with_reducible refine GB.d (fun hc => ?_) (fun hc => ?_)) | (with_reducible refine GB.e (fun hc => ?_) (fun hc => ?_)) | (with_reducible refine GB.n (fun hc => ?_) (fun hc => ?_)) | (with_reducible refine GB.mk (fun hc => ?_) (fun hc => ?_)) | (with_reducible refine And.intro (by first | omega | decide) ?_) | omega | decide | fail)
      refine hR (j + 1) ⟨by omega, fun i h1 h2 => ?_⟩ (by omega) _ ?_
      · by_cases e : i = j + 1
        · rw [e]; exact hone
        · exact hmin i h1 (by omega)
      · refine AS.Le.of (by decide) ?_ ?_ <;> simp [LeT, LeH, tget, hget, AV.bd, AV.bd.bdL, rowL_bd]
end Go.Proofs.YtpihmkhmhkopdaaGreatDoor
