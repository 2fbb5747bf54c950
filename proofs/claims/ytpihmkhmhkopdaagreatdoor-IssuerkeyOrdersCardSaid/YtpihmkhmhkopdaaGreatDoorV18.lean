/-
  WALKS of package coins, where the coins are values. Own work.
-/
import Derived.Test.YtpihmkhmhkopdaaGreatDoorV0
import Derived.Test.YtpihmkhmhkopdaaGreatDoorV17
set_option linter.all false
namespace Go.Proofs.YtpihmkhmhkopdaaGreatDoor
open Go Go.Dom Go.Num
set_option maxRecDepth 100000
set_option maxHeartbeats 8000000

theorem getD_S {l : List Bytes} {x : Nat} (h : x < l.length) : (l.map PV.s).getD x .fn0 = .s (l.getD x []) := by
  simp [List.getD_eq_getElem?_getD, h]
theorem cells_S {l : List Bytes} {y : PV} (h : y ∈ l.map PV.s) : y.cells.length = 1 := by
  obtain ⟨c, _, rfl⟩ := List.mem_map.1 h; rfl
theorem one_S {l : List Bytes} {y : PV} (h : y ∈ l.map PV.s) : y.one = true := by
  obtain ⟨c, _, rfl⟩ := List.mem_map.1 h; rfl
def idxF {α : Type} (p : α → Bool) : Nat → List α → Int
  | _, [] => -1
  | k, x :: r => if p x then (k : Int) else idxF p (k + 1) r
theorem idxF_neg {α : Type} {p : α → Bool} : ∀ {l : List α} {k : Nat}, 0 ≤ idxF p k l ↔ l.any p = true
  | [], k => by simp [idxF]
  | x :: r, k => by
    simp only [idxF, List.any_cons]
    split
    · rename_i h; simp [h]
    · rename_i h
      simp only [Bool.not_eq_true] at h
      rw [idxF_neg, h, Bool.false_or]
theorem drop_cons {l : List Bytes} {i : Nat} (h : i < l.length) : l.drop i = l.getD i [] :: l.drop (i + 1) := by
  rw [List.drop_eq_getElem_cons h, List.getD_eq_getElem?_getD, List.getElem?_eq_getElem h]; rfl
theorem IndexFuncN_ok (l : List Bytes) (f : FuncId) (p : Bytes → Bool) (hl : l.length < 4611686018427387904) (h : ∀ x, EvP Tryz.prog f [.s x] (.b (p x))) : EvP Tryz.prog 121 [.sl (l.map .s), .fn (.func f)] (E (idxF p 0 l)) := by
  refine EvP.w mixed Tryz.call121 Tryz.func121 rfl (by cbv) (by cbv) rfl ?_
  simp only [go_sem, seval, Bool.not_true, Bool.not_false]
  repeat' (first | (simp only [go_sem, seval, Bool.not_true, Bool.not_false]) | (simp (disch := omega) only [IntWalk.i64_in, IntWalk.u64_in]) | (with_reducible refine CC.T (by assumption) ?_) | (with_reducible refine CC.F (by assumption) ?_) | (with_reducible refine CC.bT (by assumption) ?_) | (with_reducible refine CC.bF (by assumption) ?_) | (with_reducible refine GB.T (by assumption) ?_) | (with_reducible refine GB.F (by assumption) ?_) | (with_reducible refine GB.bT (by assumption) ?_) | (with_reducible refine GB.bF (by assumption) ?_) | (with_reducible refine CC.dT (by omega) ?_) | (with_reducible refine CC.dF (by omega) ?_) | (with_reducible refine CC.eT (by omega) ?_) | (with_reducible refine CC.eF (by omega) ?_) | (with_reducible refine GB.dT (by omega) ?_) | (with_reducible refine GB.dF (by omega) ?_) | (with_reducible refine GB.eT (by omega) ?_) | (with_reducible refine GB.eF (by omega) ?_) | (with_reducible refine CC.nT (by omega) ?_) | (with_reducible refine CC.nF (by omega) ?_) | (with_reducible refine CC.bb (fun hc => ?_) (fun hc => ?_)) | (with_reducible refine GB.bb (fun hc => ?_) (fun hc => ?_)) | (with_reducible refine CC.d (fun hc => ?_) (fun hc => ?_)) | (with_reducible refine CC.e (fun hc => ?_) (fun hc => ?_)) | (with_reducible refine CC.n (fun hc => ?_) (fun hc => ?_)) | (with_reducible refine CC.mk (fun hc => ?_) (fun hc => ?_)) | (with_reducible refine GB.d (fun hc => ?_) (fun hc => ?_)) | (with_reducible refine GB.e (fun hc => ?_) (fun hc => ?_)) | (with_reducible refine GB.n (fun hc => ?_) (fun hc => ?_)) | (with_reducible refine GB.mk (fun hc => ?_) (fun hc => ?_)) | (with_reducible refine And.intro (by first | omega | decide) ?_) | omega | decide | fail)
  refine loop_run (α := Nat) (fun i => l.length - i) (fun i => ⟨[(0, .v (.sl (l.map .s))), (1, .v (.fn (.func f))), (7, .v (.i .i64 l.length)), (8, .v (.i .i64 (i : Nat)))], [], _⟩) (fun i => i ≤ l.length ∧ idxF p i (l.drop i) = idxF p 0 l) 0 (fun _ => Nat.le_refl _) ⟨Nat.zero_le _, rfl⟩ ?_ ?_
  · (refine AS.Le.of (by first | decide | omega) ?_ ?_ <;> simp [LeT, LeH, tget, hget, AV.bd, AV.bd.bdL, u8, bd_cellsOf, bcells_bd, icells_bd])
  · rintro i ⟨hi, hx⟩ R hR
    rw [← hx]
    by_cases hlt : i < l.length
    · have e1 := getD_S hlt
      have hf := h (l.getD i [])
      have hgo := hR (i + 1)
      rw [← hx, drop_cons hlt] at hgo
      rw [drop_cons hlt]
      simp only [idxF] at hgo ⊢
      clear hx hR h
      generalize p (l.getD i []) = b at *
      repeat' (first | (simp only [go_sem, seval, Bool.not_true, Bool.not_false , e1]) | (refine CR_pure (hf) rfl ?_) | (simp (disch := omega) only [IntWalk.i64_in, IntWalk.u64_in]) | (with_reducible refine CC.T (by assumption) ?_) | (with_reducible refine CC.F (by assumption) ?_) | (with_reducible refine CC.bT (by assumption) ?_) | (with_reducible refine CC.bF (by assumption) ?_) | (with_reducible refine GB.T (by assumption) ?_) | (with_reducible refine GB.F (by assumption) ?_) | (with_reducible refine GB.bT (by assumption) ?_) | (with_reducible refine GB.bF (by assumption) ?_) | (with_reducible refine CC.dT (by omega) ?_) | (with_reducible refine CC.dF (by omega) ?_) | (with_reducible refine CC.eT (by omega) ?_) | (with_reducible refine CC.eF (by omega) ?_) | (with_reducible refine GB.dT (by omega) ?_) | (with_reducible refine GB.dF (by omega) ?_) | (with_reducible refine GB.eT (by omega) ?_) | (with_reducible refine GB.eF (by omega) ?_) | (with_reducible refine CC.nT (by omega) ?_) | (with_reducible refine CC.nF (by omega) ?_) | (with_reducible refine CC.bb (fun hc => ?_) (fun hc => ?_)) | (with_reducible refine GB.bb (fun hc => ?_) (fun hc => ?_)) | (with_reducible refine CC.d (fun hc => ?_) (fun hc => ?_)) | (with_reducible refine CC.e (fun hc => ?_) (fun hc => ?_)) | (with_reducible refine CC.n (fun hc => ?_) (fun hc => ?_)) | (with_reducible refine CC.mk (fun hc => ?_) (fun hc => ?_)) | (with_reducible refine GB.d (fun hc => ?_) (fun hc => ?_)) | (with_reducible refine GB.e (fun hc => ?_) (fun hc => ?_)) | (with_reducible refine GB.n (fun hc => ?_) (fun hc => ?_)) | (with_reducible refine GB.mk (fun hc => ?_) (fun hc => ?_)) | (with_reducible refine And.intro (by first | omega | decide) ?_) | omega | decide | fail)
      all_goals first
        | (refine hgo ⟨by omega, by simp_all⟩ (by omega) _ ?_; (refine AS.Le.of (by first | decide | omega) ?_ ?_ <;> simp [LeT, LeH, tget, hget, AV.bd, AV.bd.bdL, u8, bd_cellsOf, bcells_bd, icells_bd]); done)
        | (simp_all; done)
        | skip
    · obtain rfl : i = l.length := by omega
      rw [List.drop_length]
      repeat' (first | (simp only [go_sem, seval, Bool.not_true, Bool.not_false]) | (simp (disch := omega) only [IntWalk.i64_in, IntWalk.u64_in]) | (with_reducible refine CC.T (by assumption) ?_) | (with_reducible refine CC.F (by assumption) ?_) | (with_reducible refine CC.bT (by assumption) ?_) | (with_reducible refine CC.bF (by assumption) ?_) | (with_reducible refine GB.T (by assumption) ?_) | (with_reducible refine GB.F (by assumption) ?_) | (with_reducible refine GB.bT (by assumption) ?_) | (with_reducible refine GB.bF (by assumption) ?_) | (with_reducible refine CC.dT (by omega) ?_) | (with_reducible refine CC.dF (by omega) ?_) | (with_reducible refine CC.eT (by omega) ?_) | (with_reducible refine CC.eF (by omega) ?_) | (with_reducible refine GB.dT (by omega) ?_) | (with_reducible refine GB.dF (by omega) ?_) | (with_reducible refine GB.eT (by omega) ?_) | (with_reducible refine GB.eF (by omega) ?_) | (with_reducible refine CC.nT (by omega) ?_) | (with_reducible refine CC.nF (by omega) ?_) | (with_reducible refine CC.bb (fun hc => ?_) (fun hc => ?_)) | (with_reducible refine GB.bb (fun hc => ?_) (fun hc => ?_)) | (with_reducible refine CC.d (fun hc => ?_) (fun hc => ?_)) | (with_reducible refine CC.e (fun hc => ?_) (fun hc => ?_)) | (with_reducible refine CC.n (fun hc => ?_) (fun hc => ?_)) | (with_reducible refine CC.mk (fun hc => ?_) (fun hc => ?_)) | (with_reducible refine GB.d (fun hc => ?_) (fun hc => ?_)) | (with_reducible refine GB.e (fun hc => ?_) (fun hc => ?_)) | (with_reducible refine GB.n (fun hc => ?_) (fun hc => ?_)) | (with_reducible refine GB.mk (fun hc => ?_) (fun hc => ?_)) | (with_reducible refine And.intro (by first | omega | decide) ?_) | omega | decide | fail)
      all_goals simp [idxF]
theorem ContainsFuncN_ok (l : List Bytes) (f : FuncId) (p : Bytes → Bool) (hl : l.length < 4611686018427387904) (h : ∀ x, EvP Tryz.prog f [.s x] (.b (p x))) : EvP Tryz.prog 112 [.sl (l.map .s), .fn (.func f)] (.b (l.any p)) := by
  have hi := IndexFuncN_ok l f p hl h
  have e : decide (idxF p 0 l ≥ 0) = l.any p := by
    rw [Bool.eq_iff_iff, decide_eq_true_iff]; exact idxF_neg
  refine EvP.w mixed Tryz.call112 Tryz.func112 rfl (by cbv) (by cbv) rfl ?_
  simp only [go_sem, seval, Bool.not_true, Bool.not_false]
  repeat' (first | (simp only [go_sem, seval, Bool.not_true, Bool.not_false , e]) | (refine CR_pure (hi) rfl ?_) | (simp (disch := omega) only [IntWalk.i64_in, IntWalk.u64_in]) | (with_reducible refine CC.T (by assumption) ?_) | (with_reducible refine CC.F (by assumption) ?_) | (with_reducible refine CC.bT (by assumption) ?_) | (with_reducible refine CC.bF (by assumption) ?_) | (with_reducible refine GB.T (by assumption) ?_) | (with_reducible refine GB.F (by assumption) ?_) | (with_reducible refine GB.bT (by assumption) ?_) | (with_reducible refine GB.bF (by assumption) ?_) | (with_reducible refine CC.dT (by omega) ?_) | (with_reducible refine CC.dF (by omega) ?_) | (with_reducible refine CC.eT (by omega) ?_) | (with_reducible refine CC.eF (by omega) ?_) | (with_reducible refine GB.dT (by omega) ?_) | (with_reducible refine GB.dF (by omega) ?_) | (with_reducible refine GB.eT (by omega) ?_) | (with_reducible refine GB.eF (by omega) ?_) | (with_reducible refine CC.nT (by omega) ?_) | (with_reducible refine CC.nF (by omega) ?_) | (with_reducible refine CC.bb (fun hc => ?_) (fun hc => ?_)) | (with_reducible refine GB.bb (fun hc => ?_) (fun hc => ?_)) | (with_reducible refine CC.d (fun hc => ?_) (fun hc => ?_)) | (with_reducible refine CC.e (fun hc => ?_) (fun hc => ?_)) | (with_reducible refine CC.n (fun hc => ?_) (fun hc => ?_)) | (with_reducible refine CC.mk (fun hc => ?_) (fun hc => ?_)) | (with_reducible refine GB.d (fun hc => ?_) (fun hc => ?_)) | (with_reducible refine GB.e (fun hc => ?_) (fun hc => ?_)) | (with_reducible refine GB.n (fun hc => ?_) (fun hc => ?_)) | (with_reducible refine GB.mk (fun hc => ?_) (fun hc => ?_)) | (with_reducible refine And.intro (by first | omega | decide) ?_) | omega | decide | fail)
/-- A tape. -/
abbrev T (vs : List Bytes) (sd : Bytes) (at' : Int) : PV := .agg [.sl (vs.map .s), .s sd, .i .i64 at']
theorem good1_ok (x : Bytes) : EvP Tryz.prog 113 [.s x] (.b (!validN x)) := by
  have hv := natValid x
  refine EvP.w mixed Tryz.call113 Tryz.func113 rfl (by cbv) (by cbv) rfl ?_
  simp only [go_sem, seval, Bool.not_true, Bool.not_false]
  repeat' (first | (simp only [go_sem, seval, Bool.not_true, Bool.not_false]) | (refine CR_pure (hv) rfl ?_) | (simp (disch := omega) only [IntWalk.i64_in, IntWalk.u64_in]) | (with_reducible refine CC.T (by assumption) ?_) | (with_reducible refine CC.F (by assumption) ?_) | (with_reducible refine CC.bT (by assumption) ?_) | (with_reducible refine CC.bF (by assumption) ?_) | (with_reducible refine GB.T (by assumption) ?_) | (with_reducible refine GB.F (by assumption) ?_) | (with_reducible refine GB.bT (by assumption) ?_) | (with_reducible refine GB.bF (by assumption) ?_) | (with_reducible refine CC.dT (by omega) ?_) | (with_reducible refine CC.dF (by omega) ?_) | (with_reducible refine CC.eT (by omega) ?_) | (with_reducible refine CC.eF (by omega) ?_) | (with_reducible refine GB.dT (by omega) ?_) | (with_reducible refine GB.dF (by omega) ?_) | (with_reducible refine GB.eT (by omega) ?_) | (with_reducible refine GB.eF (by omega) ?_) | (with_reducible refine CC.nT (by omega) ?_) | (with_reducible refine CC.nF (by omega) ?_) | (with_reducible refine CC.bb (fun hc => ?_) (fun hc => ?_)) | (with_reducible refine GB.bb (fun hc => ?_) (fun hc => ?_)) | (with_reducible refine CC.d (fun hc => ?_) (fun hc => ?_)) | (with_reducible refine CC.e (fun hc => ?_) (fun hc => ?_)) | (with_reducible refine CC.n (fun hc => ?_) (fun hc => ?_)) | (with_reducible refine CC.mk (fun hc => ?_) (fun hc => ?_)) | (with_reducible refine GB.d (fun hc => ?_) (fun hc => ?_)) | (with_reducible refine GB.e (fun hc => ?_) (fun hc => ?_)) | (with_reducible refine GB.n (fun hc => ?_) (fun hc => ?_)) | (with_reducible refine GB.mk (fun hc => ?_) (fun hc => ?_)) | (with_reducible refine And.intro (by first | omega | decide) ?_) | omega | decide | fail)
def goodT (vs : List Bytes) (at' : Int) : Bool := decide (at' ≥ 0) && decide (at' ≤ 2147483647) && !(vs.any fun x => !validN x)
theorem coinsgood_ok (vs : List Bytes) (sd : Bytes) (at' : Int) (hl : vs.length < 4611686018427387904) : EvP Tryz.prog 95 [T vs sd at'] (.b (goodT vs at')) := by
  have hcf := ContainsFuncN_ok vs _ (fun x => !validN x) hl good1_ok
  unfold goodT
  generalize (vs.any fun x => !validN x) = b at *
  refine EvP.w mixed Tryz.call95 Tryz.func95 rfl (by cbv) (by cbv) rfl ?_
  simp only [go_sem, seval, Bool.not_true, Bool.not_false]
  repeat' (first | (simp only [go_sem, seval, Bool.not_true, Bool.not_false]) | (refine CR_pure (hcf) rfl ?_) | (simp (disch := omega) only [IntWalk.i64_in, IntWalk.u64_in]) | (with_reducible refine CC.T (by assumption) ?_) | (with_reducible refine CC.F (by assumption) ?_) | (with_reducible refine CC.bT (by assumption) ?_) | (with_reducible refine CC.bF (by assumption) ?_) | (with_reducible refine GB.T (by assumption) ?_) | (with_reducible refine GB.F (by assumption) ?_) | (with_reducible refine GB.bT (by assumption) ?_) | (with_reducible refine GB.bF (by assumption) ?_) | (with_reducible refine CC.dT (by omega) ?_) | (with_reducible refine CC.dF (by omega) ?_) | (with_reducible refine CC.eT (by omega) ?_) | (with_reducible refine CC.eF (by omega) ?_) | (with_reducible refine GB.dT (by omega) ?_) | (with_reducible refine GB.dF (by omega) ?_) | (with_reducible refine GB.eT (by omega) ?_) | (with_reducible refine GB.eF (by omega) ?_) | (with_reducible refine CC.nT (by omega) ?_) | (with_reducible refine CC.nF (by omega) ?_) | (with_reducible refine CC.bb (fun hc => ?_) (fun hc => ?_)) | (with_reducible refine GB.bb (fun hc => ?_) (fun hc => ?_)) | (with_reducible refine CC.d (fun hc => ?_) (fun hc => ?_)) | (with_reducible refine CC.e (fun hc => ?_) (fun hc => ?_)) | (with_reducible refine CC.n (fun hc => ?_) (fun hc => ?_)) | (with_reducible refine CC.mk (fun hc => ?_) (fun hc => ?_)) | (with_reducible refine GB.d (fun hc => ?_) (fun hc => ?_)) | (with_reducible refine GB.e (fun hc => ?_) (fun hc => ?_)) | (with_reducible refine GB.n (fun hc => ?_) (fun hc => ?_)) | (with_reducible refine GB.mk (fun hc => ?_) (fun hc => ?_)) | (with_reducible refine And.intro (by first | omega | decide) ?_) | omega | decide | fail)
  all_goals simp_all
  all_goals (intros; omega)
def readyE (vs : List Bytes) (at' : Int) (n : Bytes) : Int := if !(goodT vs at' && validN n) then 3 else if n = [] then 11 else 0
theorem ready_ok (vs : List Bytes) (sd : Bytes) (at' : Int) (n : Bytes) (hl : vs.length < 4611686018427387904) : EvP Tryz.prog 73 [T vs sd at', .s n] (E (readyE vs at' n)) := by
  have hg := coinsgood_ok vs sd at' hl
  have hv := natValid n
  unfold readyE
  generalize goodT vs at' = b at *
  generalize validN n = b2 at *
  refine EvP.w mixed Tryz.call73 Tryz.func73 rfl (by cbv) (by cbv) rfl ?_
  simp only [go_sem, seval, Bool.not_true, Bool.not_false]
  repeat' (first | (simp only [go_sem, seval, Bool.not_true, Bool.not_false]) | (refine CR_pure (hg) rfl ?_) | (refine CR_pure (hv) rfl ?_) | (simp (disch := omega) only [IntWalk.i64_in, IntWalk.u64_in]) | (with_reducible refine CC.T (by assumption) ?_) | (with_reducible refine CC.F (by assumption) ?_) | (with_reducible refine CC.bT (by assumption) ?_) | (with_reducible refine CC.bF (by assumption) ?_) | (with_reducible refine GB.T (by assumption) ?_) | (with_reducible refine GB.F (by assumption) ?_) | (with_reducible refine GB.bT (by assumption) ?_) | (with_reducible refine GB.bF (by assumption) ?_) | (with_reducible refine CC.dT (by omega) ?_) | (with_reducible refine CC.dF (by omega) ?_) | (with_reducible refine CC.eT (by omega) ?_) | (with_reducible refine CC.eF (by omega) ?_) | (with_reducible refine GB.dT (by omega) ?_) | (with_reducible refine GB.dF (by omega) ?_) | (with_reducible refine GB.eT (by omega) ?_) | (with_reducible refine GB.eF (by omega) ?_) | (with_reducible refine CC.nT (by omega) ?_) | (with_reducible refine CC.nF (by omega) ?_) | (with_reducible refine CC.bb (fun hc => ?_) (fun hc => ?_)) | (with_reducible refine GB.bb (fun hc => ?_) (fun hc => ?_)) | (with_reducible refine CC.d (fun hc => ?_) (fun hc => ?_)) | (with_reducible refine CC.e (fun hc => ?_) (fun hc => ?_)) | (with_reducible refine CC.n (fun hc => ?_) (fun hc => ?_)) | (with_reducible refine CC.mk (fun hc => ?_) (fun hc => ?_)) | (with_reducible refine GB.d (fun hc => ?_) (fun hc => ?_)) | (with_reducible refine GB.e (fun hc => ?_) (fun hc => ?_)) | (with_reducible refine GB.n (fun hc => ?_) (fun hc => ?_)) | (with_reducible refine GB.mk (fun hc => ?_) (fun hc => ?_)) | (with_reducible refine And.intro (by first | omega | decide) ?_) | omega | decide | fail)
  all_goals simp_all
/-- What a draw of a value comes to. -/
def drawR (vs : List Bytes) (sd : Bytes) (i : Nat) (n : Bytes) : PV :=
  if num n ≤ num (vs.getD i []) then .tup [.s [], T [] [] 0, E 2] else .tup [.s (vs.getD i []), T vs sd (i + 1 : Nat), E 0]
theorem flat_S (l : List Bytes) : (l.map PV.s).flatMap PV.cells = l.map PV.s := by
  induction l with
  | nil => rfl
  | cons x r ih => simp_all [PV.cells]
theorem one_SA {l : List Bytes} {y : AV} (h : y ∈ List.map AV.v (List.flatMap PV.cells (l.map PV.s))) : y.one = true := by
  rw [flat_S, List.map_map] at h
  obtain ⟨c, _, rfl⟩ := List.mem_map.1 h; rfl
theorem flat_rep (n : Nat) (x : AV) : (List.replicate n [x]).flatten.length = n := by
  induction n with
  | zero => rfl
  | succ n ih => rw [List.replicate_succ, List.flatten_cons, List.length_append, ih, List.length_singleton]; omega
theorem rowS (vs : List Bytes) : List.drop vs.length (List.replicate vs.length [AV.v (PV.s [])]).flatten = [] ∧ (List.map AV.v (List.map PV.s vs)).all AV.one = true ∧ List.take vs.length (List.map AV.v (List.map PV.s vs)) = List.map AV.v (List.map PV.s vs) ∧ chunk 1 vs.length (List.map PV.s vs) = List.map PV.s vs := by
  refine ⟨?_, ?_, ?_, ?_⟩
  · rw [List.drop_of_length_le (by rw [flat_rep]; exact Nat.le_refl _)]
  · simp [List.all_eq_true, AV.one, PV.one]
  · rw [List.take_of_length_le (by simp)]
  · have := chunk1 (List.map PV.s vs); rwa [List.length_map] at this
theorem getD_mem {vs : List Bytes} {i : Nat} (hi : i < vs.length) : vs.getD i [] ∈ vs := by
  rw [List.getD_eq_getElem?_getD, List.getElem?_eq_getElem hi]; exact List.getElem_mem hi
theorem draw_ok {vs : List Bytes} (sd : Bytes) {i : Nat} {n : Bytes} (hv : vs.all validN = true) (hn : validN n = true) (hi : i < vs.length) (hl : vs.length < 1000000) : EvP Tryz.prog 74 [T vs sd i, .s n] (drawR vs sd i n) := by
  have hx : validN (vs.getD i []) = true := List.all_eq_true.1 hv _ (getD_mem hi)
  have hcm := Cmp_ok (vs.getD i []) n
  rw [hx, hn] at hcm
  simp only [Bool.and_self, if_true] at hcm
  have e1 := getD_S hi
  have e2 : (cmpN (num (vs.getD i [])) (num n) ≥ 0) = (num n ≤ num (vs.getD i [])) := cmpGe _ _
  unfold drawR
  generalize cmpN (num (vs.getD i [])) (num n) = cm at *
  by_cases hle : num n ≤ num (vs.getD i [])
  · rw [if_pos hle]
    have e3 : cm ≥ 0 := by rw [e2]; exact hle
    refine EvP.w mixed Tryz.call74 Tryz.func74 rfl (by cbv) (by cbv) rfl ?_
    simp only [go_sem, seval, Bool.not_true, Bool.not_false]
    repeat' (first | (simp only [go_sem, seval, Bool.not_true, Bool.not_false , e1]) | (refine CR_pure (hcm) rfl ?_) | (simp (disch := omega) only [IntWalk.i64_in, IntWalk.u64_in]) | (with_reducible refine CC.T (by assumption) ?_) | (with_reducible refine CC.F (by assumption) ?_) | (with_reducible refine CC.bT (by assumption) ?_) | (with_reducible refine CC.bF (by assumption) ?_) | (with_reducible refine GB.T (by assumption) ?_) | (with_reducible refine GB.F (by assumption) ?_) | (with_reducible refine GB.bT (by assumption) ?_) | (with_reducible refine GB.bF (by assumption) ?_) | (with_reducible refine CC.dT (by omega) ?_) | (with_reducible refine CC.dF (by omega) ?_) | (with_reducible refine CC.eT (by omega) ?_) | (with_reducible refine CC.eF (by omega) ?_) | (with_reducible refine GB.dT (by omega) ?_) | (with_reducible refine GB.dF (by omega) ?_) | (with_reducible refine GB.eT (by omega) ?_) | (with_reducible refine GB.eF (by omega) ?_) | (with_reducible refine CC.nT (by omega) ?_) | (with_reducible refine CC.nF (by omega) ?_) | (with_reducible refine CC.bb (fun hc => ?_) (fun hc => ?_)) | (with_reducible refine GB.bb (fun hc => ?_) (fun hc => ?_)) | (with_reducible refine CC.d (fun hc => ?_) (fun hc => ?_)) | (with_reducible refine CC.e (fun hc => ?_) (fun hc => ?_)) | (with_reducible refine CC.n (fun hc => ?_) (fun hc => ?_)) | (with_reducible refine CC.mk (fun hc => ?_) (fun hc => ?_)) | (with_reducible refine GB.d (fun hc => ?_) (fun hc => ?_)) | (with_reducible refine GB.e (fun hc => ?_) (fun hc => ?_)) | (with_reducible refine GB.n (fun hc => ?_) (fun hc => ?_)) | (with_reducible refine GB.mk (fun hc => ?_) (fun hc => ?_)) | (with_reducible refine And.intro (by first | omega | decide) ?_) | omega | decide | fail)
    rfl
  · rw [if_neg hle]
    have e3 : ¬ cm ≥ 0 := by rw [e2]; exact hle
    refine EvP.w mixed Tryz.call74 Tryz.func74 rfl (by cbv) (by cbv) rfl ?_
    simp only [go_sem, seval, Bool.not_true, Bool.not_false]
    repeat' (first | (simp only [go_sem, seval, Bool.not_true, Bool.not_false , e1]) | (refine CR_pure (hcm) rfl ?_) | (simp (disch := omega) only [IntWalk.i64_in, IntWalk.u64_in]) | (with_reducible refine CC.T (by assumption) ?_) | (with_reducible refine CC.F (by assumption) ?_) | (with_reducible refine CC.bT (by assumption) ?_) | (with_reducible refine CC.bF (by assumption) ?_) | (with_reducible refine GB.T (by assumption) ?_) | (with_reducible refine GB.F (by assumption) ?_) | (with_reducible refine GB.bT (by assumption) ?_) | (with_reducible refine GB.bF (by assumption) ?_) | (with_reducible refine CC.dT (by omega) ?_) | (with_reducible refine CC.dF (by omega) ?_) | (with_reducible refine CC.eT (by omega) ?_) | (with_reducible refine CC.eF (by omega) ?_) | (with_reducible refine GB.dT (by omega) ?_) | (with_reducible refine GB.dF (by omega) ?_) | (with_reducible refine GB.eT (by omega) ?_) | (with_reducible refine GB.eF (by omega) ?_) | (with_reducible refine CC.nT (by omega) ?_) | (with_reducible refine CC.nF (by omega) ?_) | (with_reducible refine CC.bb (fun hc => ?_) (fun hc => ?_)) | (with_reducible refine GB.bb (fun hc => ?_) (fun hc => ?_)) | (with_reducible refine CC.d (fun hc => ?_) (fun hc => ?_)) | (with_reducible refine CC.e (fun hc => ?_) (fun hc => ?_)) | (with_reducible refine CC.n (fun hc => ?_) (fun hc => ?_)) | (with_reducible refine CC.mk (fun hc => ?_) (fun hc => ?_)) | (with_reducible refine GB.d (fun hc => ?_) (fun hc => ?_)) | (with_reducible refine GB.e (fun hc => ?_) (fun hc => ?_)) | (with_reducible refine GB.n (fun hc => ?_) (fun hc => ?_)) | (with_reducible refine GB.mk (fun hc => ?_) (fun hc => ?_)) | (with_reducible refine And.intro (by first | omega | decide) ?_) | omega | decide | fail)
    refine ⟨⟨fun x hx => cells_S hx, fun y hy => one_SA hy, by rw [flat_rep]; exact Nat.le_refl _⟩, ?_⟩
    obtain ⟨r1, r2, r3, r4⟩ := rowS vs
    repeat' (first | (simp only [go_sem, seval, Bool.not_true, Bool.not_false , e1, flat_rep, flat_S, r1, r2, r3, r4, mapO_view_v]) | (simp (disch := omega) only [IntWalk.i64_in, IntWalk.u64_in]) | (with_reducible refine CC.T (by assumption) ?_) | (with_reducible refine CC.F (by assumption) ?_) | (with_reducible refine CC.bT (by assumption) ?_) | (with_reducible refine CC.bF (by assumption) ?_) | (with_reducible refine GB.T (by assumption) ?_) | (with_reducible refine GB.F (by assumption) ?_) | (with_reducible refine GB.bT (by assumption) ?_) | (with_reducible refine GB.bF (by assumption) ?_) | (with_reducible refine CC.dT (by omega) ?_) | (with_reducible refine CC.dF (by omega) ?_) | (with_reducible refine CC.eT (by omega) ?_) | (with_reducible refine CC.eF (by omega) ?_) | (with_reducible refine GB.dT (by omega) ?_) | (with_reducible refine GB.dF (by omega) ?_) | (with_reducible refine GB.eT (by omega) ?_) | (with_reducible refine GB.eF (by omega) ?_) | (with_reducible refine CC.nT (by omega) ?_) | (with_reducible refine CC.nF (by omega) ?_) | (with_reducible refine CC.bb (fun hc => ?_) (fun hc => ?_)) | (with_reducible refine GB.bb (fun hc => ?_) (fun hc => ?_)) | (with_reducible refine CC.d (fun hc => ?_) (fun hc => ?_)) | (with_reducible refine CC.e (fun hc => ?_) (fun hc => ?_)) | (with_reducible refine CC.n (fun hc => ?_) (fun hc => ?_)) | (with_reducible refine CC.mk (fun hc => ?_) (fun hc => ?_)) | (with_reducible refine GB.d (fun hc => ?_) (fun hc => ?_)) | (with_reducible refine GB.e (fun hc => ?_) (fun hc => ?_)) | (with_reducible refine GB.n (fun hc => ?_) (fun hc => ?_)) | (with_reducible refine GB.mk (fun hc => ?_) (fun hc => ?_)) | (with_reducible refine And.intro (by first | omega | decide) ?_) | omega | decide | fail)
    simp
theorem ready0 {vs : List Bytes} {i : Nat} {n : Bytes} (hv : vs.all validN = true) (hn : validN n = true) (h0 : n ≠ []) (hi : i < 1000000) : readyE vs i n = 0 := by
  have h1 : (vs.any fun x => !validN x) = false := by
    rw [Bool.eq_false_iff]; intro g
    obtain ⟨x, hx, h⟩ := List.any_eq_true.1 g
    simp [List.all_eq_true.1 hv x hx] at h
  have h2 : goodT vs i = true := by
    unfold goodT
    rw [h1, decide_eq_true (show (i : Int) ≥ 0 by omega), decide_eq_true (show (i : Int) ≤ 2147483647 by omega)]; rfl
  simp [readyE, h2, hn, h0]
theorem Below_ok {vs : List Bytes} (sd : Bytes) {i : Nat} {n : Bytes} (hv : vs.all validN = true) (hn : validN n = true) (h0 : n ≠ []) (hi : i < vs.length) (hl : vs.length < 1000000) : EvP Tryz.prog 46 [T vs sd i, .s n] (drawR vs sd i n) := by
  have h1 := ready_ok vs sd i n (by omega)
  rw [ready0 hv hn h0 (by omega)] at h1
  have h2 := draw_ok sd hv hn hi hl
  unfold drawR at *
  by_cases hle : num n ≤ num (vs.getD i [])
  · rw [if_pos hle] at h2 ⊢
    refine EvP.w mixed Tryz.call46 Tryz.func46 rfl (by cbv) (by cbv) rfl ?_
    simp only [go_sem, seval, Bool.not_true, Bool.not_false]
    repeat' (first | (simp only [go_sem, seval, Bool.not_true, Bool.not_false]) | (refine CR_pure (h1) rfl ?_) | (refine CR_pure (h2) rfl ?_) | (simp (disch := omega) only [IntWalk.i64_in, IntWalk.u64_in]) | (with_reducible refine CC.T (by assumption) ?_) | (with_reducible refine CC.F (by assumption) ?_) | (with_reducible refine CC.bT (by assumption) ?_) | (with_reducible refine CC.bF (by assumption) ?_) | (with_reducible refine GB.T (by assumption) ?_) | (with_reducible refine GB.F (by assumption) ?_) | (with_reducible refine GB.bT (by assumption) ?_) | (with_reducible refine GB.bF (by assumption) ?_) | (with_reducible refine CC.dT (by omega) ?_) | (with_reducible refine CC.dF (by omega) ?_) | (with_reducible refine CC.eT (by omega) ?_) | (with_reducible refine CC.eF (by omega) ?_) | (with_reducible refine GB.dT (by omega) ?_) | (with_reducible refine GB.dF (by omega) ?_) | (with_reducible refine GB.eT (by omega) ?_) | (with_reducible refine GB.eF (by omega) ?_) | (with_reducible refine CC.nT (by omega) ?_) | (with_reducible refine CC.nF (by omega) ?_) | (with_reducible refine CC.bb (fun hc => ?_) (fun hc => ?_)) | (with_reducible refine GB.bb (fun hc => ?_) (fun hc => ?_)) | (with_reducible refine CC.d (fun hc => ?_) (fun hc => ?_)) | (with_reducible refine CC.e (fun hc => ?_) (fun hc => ?_)) | (with_reducible refine CC.n (fun hc => ?_) (fun hc => ?_)) | (with_reducible refine CC.mk (fun hc => ?_) (fun hc => ?_)) | (with_reducible refine GB.d (fun hc => ?_) (fun hc => ?_)) | (with_reducible refine GB.e (fun hc => ?_) (fun hc => ?_)) | (with_reducible refine GB.n (fun hc => ?_) (fun hc => ?_)) | (with_reducible refine GB.mk (fun hc => ?_) (fun hc => ?_)) | (with_reducible refine And.intro (by first | omega | decide) ?_) | omega | decide | fail)
    all_goals rfl
  · rw [if_neg hle] at h2 ⊢
    refine EvP.w mixed Tryz.call46 Tryz.func46 rfl (by cbv) (by cbv) rfl ?_
    simp only [go_sem, seval, Bool.not_true, Bool.not_false]
    repeat' (first | (simp only [go_sem, seval, Bool.not_true, Bool.not_false]) | (refine CR_pure (h1) rfl ?_) | (refine CR_pure (h2) rfl ?_) | (simp (disch := omega) only [IntWalk.i64_in, IntWalk.u64_in]) | (with_reducible refine CC.T (by assumption) ?_) | (with_reducible refine CC.F (by assumption) ?_) | (with_reducible refine CC.bT (by assumption) ?_) | (with_reducible refine CC.bF (by assumption) ?_) | (with_reducible refine GB.T (by assumption) ?_) | (with_reducible refine GB.F (by assumption) ?_) | (with_reducible refine GB.bT (by assumption) ?_) | (with_reducible refine GB.bF (by assumption) ?_) | (with_reducible refine CC.dT (by omega) ?_) | (with_reducible refine CC.dF (by omega) ?_) | (with_reducible refine CC.eT (by omega) ?_) | (with_reducible refine CC.eF (by omega) ?_) | (with_reducible refine GB.dT (by omega) ?_) | (with_reducible refine GB.dF (by omega) ?_) | (with_reducible refine GB.eT (by omega) ?_) | (with_reducible refine GB.eF (by omega) ?_) | (with_reducible refine CC.nT (by omega) ?_) | (with_reducible refine CC.nF (by omega) ?_) | (with_reducible refine CC.bb (fun hc => ?_) (fun hc => ?_)) | (with_reducible refine GB.bb (fun hc => ?_) (fun hc => ?_)) | (with_reducible refine CC.d (fun hc => ?_) (fun hc => ?_)) | (with_reducible refine CC.e (fun hc => ?_) (fun hc => ?_)) | (with_reducible refine CC.n (fun hc => ?_) (fun hc => ?_)) | (with_reducible refine CC.mk (fun hc => ?_) (fun hc => ?_)) | (with_reducible refine GB.d (fun hc => ?_) (fun hc => ?_)) | (with_reducible refine GB.e (fun hc => ?_) (fun hc => ?_)) | (with_reducible refine GB.n (fun hc => ?_) (fun hc => ?_)) | (with_reducible refine GB.mk (fun hc => ?_) (fun hc => ?_)) | (with_reducible refine And.intro (by first | omega | decide) ?_) | omega | decide | fail)
    all_goals simp
theorem Many0_ok {vs : List Bytes} (sd : Bytes) {i : Nat} (hv : vs.all validN = true) (hi : i < 1000000) (hl : vs.length < 1000000) : EvP Tryz.prog 94 [T vs sd i, .s [1], E 0] (.tup [.sl [], T vs sd i, E 0]) := by
  have h1 := ready_ok vs sd i [1] (by omega)
  rw [ready0 hv rfl (by simp) hi] at h1
  refine EvP.w mixed Tryz.call94 Tryz.func94 rfl (by cbv) (by cbv) rfl ?_
  simp only [go_sem, seval, Bool.not_true, Bool.not_false]
  repeat' (first | (simp only [go_sem, seval, Bool.not_true, Bool.not_false]) | (refine CR_pure (h1) rfl ?_) | (refine loop_unroll' ?_) | (simp (disch := omega) only [IntWalk.i64_in, IntWalk.u64_in]) | (with_reducible refine CC.T (by assumption) ?_) | (with_reducible refine CC.F (by assumption) ?_) | (with_reducible refine CC.bT (by assumption) ?_) | (with_reducible refine CC.bF (by assumption) ?_) | (with_reducible refine GB.T (by assumption) ?_) | (with_reducible refine GB.F (by assumption) ?_) | (with_reducible refine GB.bT (by assumption) ?_) | (with_reducible refine GB.bF (by assumption) ?_) | (with_reducible refine CC.dT (by omega) ?_) | (with_reducible refine CC.dF (by omega) ?_) | (with_reducible refine CC.eT (by omega) ?_) | (with_reducible refine CC.eF (by omega) ?_) | (with_reducible refine GB.dT (by omega) ?_) | (with_reducible refine GB.dF (by omega) ?_) | (with_reducible refine GB.eT (by omega) ?_) | (with_reducible refine GB.eF (by omega) ?_) | (with_reducible refine CC.nT (by omega) ?_) | (with_reducible refine CC.nF (by omega) ?_) | (with_reducible refine CC.bb (fun hc => ?_) (fun hc => ?_)) | (with_reducible refine GB.bb (fun hc => ?_) (fun hc => ?_)) | (with_reducible refine CC.d (fun hc => ?_) (fun hc => ?_)) | (with_reducible refine CC.e (fun hc => ?_) (fun hc => ?_)) | (with_reducible refine CC.n (fun hc => ?_) (fun hc => ?_)) | (with_reducible refine CC.mk (fun hc => ?_) (fun hc => ?_)) | (with_reducible refine GB.d (fun hc => ?_) (fun hc => ?_)) | (with_reducible refine GB.e (fun hc => ?_) (fun hc => ?_)) | (with_reducible refine GB.n (fun hc => ?_) (fun hc => ?_)) | (with_reducible refine GB.mk (fun hc => ?_) (fun hc => ?_)) | (with_reducible refine And.intro (by first | omega | decide) ?_) | omega | decide | fail)
theorem wellFormed_ok {vs : List Bytes} (sd : Bytes) {i : Nat} (hv : vs.all validN = true) (hi : i < 1000000) (hl : vs.length < 1000000) : EvP Tryz.prog 71 [T vs sd i] (.b true) := by
  have h1 := Many0_ok sd hv hi hl
  rw [one_eq] at h1
  refine EvP.w mixed Tryz.call71 Tryz.func71 rfl (by cbv) (by cbv) rfl ?_
  simp only [go_sem, seval, Bool.not_true, Bool.not_false]
  repeat' (first | (simp only [go_sem, seval, Bool.not_true, Bool.not_false]) | (refine CR_pure (rone_ok) rfl ?_) | (refine CR_pure (h1) rfl ?_) | (simp (disch := omega) only [IntWalk.i64_in, IntWalk.u64_in]) | (with_reducible refine CC.T (by assumption) ?_) | (with_reducible refine CC.F (by assumption) ?_) | (with_reducible refine CC.bT (by assumption) ?_) | (with_reducible refine CC.bF (by assumption) ?_) | (with_reducible refine GB.T (by assumption) ?_) | (with_reducible refine GB.F (by assumption) ?_) | (with_reducible refine GB.bT (by assumption) ?_) | (with_reducible refine GB.bF (by assumption) ?_) | (with_reducible refine CC.dT (by omega) ?_) | (with_reducible refine CC.dF (by omega) ?_) | (with_reducible refine CC.eT (by omega) ?_) | (with_reducible refine CC.eF (by omega) ?_) | (with_reducible refine GB.dT (by omega) ?_) | (with_reducible refine GB.dF (by omega) ?_) | (with_reducible refine GB.eT (by omega) ?_) | (with_reducible refine GB.eF (by omega) ?_) | (with_reducible refine CC.nT (by omega) ?_) | (with_reducible refine CC.nF (by omega) ?_) | (with_reducible refine CC.bb (fun hc => ?_) (fun hc => ?_)) | (with_reducible refine GB.bb (fun hc => ?_) (fun hc => ?_)) | (with_reducible refine CC.d (fun hc => ?_) (fun hc => ?_)) | (with_reducible refine CC.e (fun hc => ?_) (fun hc => ?_)) | (with_reducible refine CC.n (fun hc => ?_) (fun hc => ?_)) | (with_reducible refine CC.mk (fun hc => ?_) (fun hc => ?_)) | (with_reducible refine GB.d (fun hc => ?_) (fun hc => ?_)) | (with_reducible refine GB.e (fun hc => ?_) (fun hc => ?_)) | (with_reducible refine GB.n (fun hc => ?_) (fun hc => ?_)) | (with_reducible refine GB.mk (fun hc => ?_) (fun hc => ?_)) | (with_reducible refine And.intro (by first | omega | decide) ?_) | omega | decide | fail)
theorem half_ok {p : Bytes} (vp : validN p = true) (lp : p.length ≤ 8) (h1 : 1 ≤ num p) : EvP Tryz.prog 72 [.s p] (N ((num p - 1) / 2)) := by
  have hs := SubN (num8 lp) (show 1 < 18446744073709551616 by decide)
  rw [if_pos h1, if_pos h1, N_of vp] at hs
  have hd := DivModN (a := num p - 1) (b := 2) (by have := num8 lp; omega) (by decide) (by decide)
  refine EvP.w mixed Tryz.call72 Tryz.func72 rfl (by cbv) (by cbv) rfl ?_
  simp only [go_sem, seval, Bool.not_true, Bool.not_false]
  repeat' (first | (simp only [go_sem, seval, Bool.not_true, Bool.not_false , two_eq]) | (refine CR_pure (rone_ok) rfl ?_) | (refine CR_pure (Of2) rfl ?_) | (refine CR_pure (hs) rfl ?_) | (refine CR_pure (hd) rfl ?_) | (simp (disch := omega) only [IntWalk.i64_in, IntWalk.u64_in]) | (with_reducible refine CC.T (by assumption) ?_) | (with_reducible refine CC.F (by assumption) ?_) | (with_reducible refine CC.bT (by assumption) ?_) | (with_reducible refine CC.bF (by assumption) ?_) | (with_reducible refine GB.T (by assumption) ?_) | (with_reducible refine GB.F (by assumption) ?_) | (with_reducible refine GB.bT (by assumption) ?_) | (with_reducible refine GB.bF (by assumption) ?_) | (with_reducible refine CC.dT (by omega) ?_) | (with_reducible refine CC.dF (by omega) ?_) | (with_reducible refine CC.eT (by omega) ?_) | (with_reducible refine CC.eF (by omega) ?_) | (with_reducible refine GB.dT (by omega) ?_) | (with_reducible refine GB.dF (by omega) ?_) | (with_reducible refine GB.eT (by omega) ?_) | (with_reducible refine GB.eF (by omega) ?_) | (with_reducible refine CC.nT (by omega) ?_) | (with_reducible refine CC.nF (by omega) ?_) | (with_reducible refine CC.bb (fun hc => ?_) (fun hc => ?_)) | (with_reducible refine GB.bb (fun hc => ?_) (fun hc => ?_)) | (with_reducible refine CC.d (fun hc => ?_) (fun hc => ?_)) | (with_reducible refine CC.e (fun hc => ?_) (fun hc => ?_)) | (with_reducible refine CC.n (fun hc => ?_) (fun hc => ?_)) | (with_reducible refine CC.mk (fun hc => ?_) (fun hc => ?_)) | (with_reducible refine GB.d (fun hc => ?_) (fun hc => ?_)) | (with_reducible refine GB.e (fun hc => ?_) (fun hc => ?_)) | (with_reducible refine GB.n (fun hc => ?_) (fun hc => ?_)) | (with_reducible refine GB.mk (fun hc => ?_) (fun hc => ?_)) | (with_reducible refine And.intro (by first | omega | decide) ?_) | omega | decide | fail)
theorem Order_ok {p q : Bytes} (vp : validN p = true) (vq : validN q = true) (lp : p.length ≤ 4) (lq : q.length ≤ 4) (h1 : 1 ≤ num p) (h2 : 1 ≤ num q) (hs : safeE p q = 0) : EvP Tryz.prog 44 [G p q] (.tup [N ((num p - 1) / 2 * ((num q - 1) / 2)), E 0]) := by
  have v1 := natValid p
  have v2 := natValid q
  rw [vp] at v1
  rw [vq] at v2
  have hsf := safe_ok p q
  rw [hs] at hsf
  have a1 := half_ok vp (by omega) h1
  have a2 := half_ok vq (by omega) h2
  have b1 : num p < 4294967296 := Nat.lt_of_lt_of_le (num_lt p) (Nat.pow_le_pow_right (by decide) lp)
  have b2 : num q < 4294967296 := Nat.lt_of_lt_of_le (num_lt q) (Nat.pow_le_pow_right (by decide) lq)
  have hm := Mul_ok (bts ((num p - 1) / 2)) (bts ((num q - 1) / 2))
  have hx : (num p - 1) / 2 * ((num q - 1) / 2) < 18446744073709551616 := Nat.lt_of_lt_of_le (Nat.mul_lt_mul'' (show _ < 4294967296 by omega) (show _ < 4294967296 by omega)) (by decide)
  have hl : (num p - 1) / 2 * ((num q - 1) / 2) < LIM := Nat.lt_of_lt_of_le hx (by unfold LIM; decide +kernel)
  simp only [mulB, vN (show (num p - 1) / 2 < 18446744073709551616 by omega), vN (show (num q - 1) / 2 < 18446744073709551616 by omega), Bool.and_self, if_true, num_bts, hl] at hm
  refine EvP.w mixed Tryz.call44 Tryz.func44 rfl (by cbv) (by cbv) rfl ?_
  simp only [go_sem, seval, Bool.not_true, Bool.not_false]
  repeat' (first | (simp only [go_sem, seval, Bool.not_true, Bool.not_false]) | (refine CR_pure (v1) rfl ?_) | (refine CR_pure (v2) rfl ?_) | (refine CR_pure (hsf) rfl ?_) | (refine CR_pure (a1) rfl ?_) | (refine CR_pure (a2) rfl ?_) | (refine CR_pure (hm) rfl ?_) | (simp (disch := omega) only [IntWalk.i64_in, IntWalk.u64_in]) | (with_reducible refine CC.T (by assumption) ?_) | (with_reducible refine CC.F (by assumption) ?_) | (with_reducible refine CC.bT (by assumption) ?_) | (with_reducible refine CC.bF (by assumption) ?_) | (with_reducible refine GB.T (by assumption) ?_) | (with_reducible refine GB.F (by assumption) ?_) | (with_reducible refine GB.bT (by assumption) ?_) | (with_reducible refine GB.bF (by assumption) ?_) | (with_reducible refine CC.dT (by omega) ?_) | (with_reducible refine CC.dF (by omega) ?_) | (with_reducible refine CC.eT (by omega) ?_) | (with_reducible refine CC.eF (by omega) ?_) | (with_reducible refine GB.dT (by omega) ?_) | (with_reducible refine GB.dF (by omega) ?_) | (with_reducible refine GB.eT (by omega) ?_) | (with_reducible refine GB.eF (by omega) ?_) | (with_reducible refine CC.nT (by omega) ?_) | (with_reducible refine CC.nF (by omega) ?_) | (with_reducible refine CC.bb (fun hc => ?_) (fun hc => ?_)) | (with_reducible refine GB.bb (fun hc => ?_) (fun hc => ?_)) | (with_reducible refine CC.d (fun hc => ?_) (fun hc => ?_)) | (with_reducible refine CC.e (fun hc => ?_) (fun hc => ?_)) | (with_reducible refine CC.n (fun hc => ?_) (fun hc => ?_)) | (with_reducible refine CC.mk (fun hc => ?_) (fun hc => ?_)) | (with_reducible refine GB.d (fun hc => ?_) (fun hc => ?_)) | (with_reducible refine GB.e (fun hc => ?_) (fun hc => ?_)) | (with_reducible refine GB.n (fun hc => ?_) (fun hc => ?_)) | (with_reducible refine GB.mk (fun hc => ?_) (fun hc => ?_)) | (with_reducible refine And.intro (by first | omega | decide) ?_) | omega | decide | fail)
end Go.Proofs.YtpihmkhmhkopdaaGreatDoor
