/-
  WALKS of package issuerkey: Check, Fits. Own work.
-/
import Derived.Test.YtpihmkhmhkopdaaGreatDoorV0
import Derived.Test.YtpihmkhmhkopdaaGreatDoorV15
import Derived.Test.YtpihmkhmhkopdaaGreatDoorI2
import Derived.Test.YtpihmkhmhkopdaaGreatDoorV16
set_option linter.all false
namespace Go.Proofs.YtpihmkhmhkopdaaGreatDoor
open Go Go.Dom Go.Num
set_option maxRecDepth 100000
set_option maxHeartbeats 8000000

theorem bases_ok (k : Key) : EvP Tryz.prog 14 [k.pv] (.fc 33 [] [.pt k.pv 0]) := by
  unfold Key.pv
  refine EvP.w mixed Tryz.call14 Tryz.func14 rfl (by cbv) (by cbv) rfl ?_
  simp only [go_sem, seval, Bool.not_true, Bool.not_false]
  repeat' (first | (simp only [go_sem, seval, Bool.not_true, Bool.not_false]) | (simp (disch := omega) only [IntWalk.i64_in, IntWalk.u64_in]) | (with_reducible refine CC.T (by assumption) ?_) | (with_reducible refine CC.F (by assumption) ?_) | (with_reducible refine CC.bT (by assumption) ?_) | (with_reducible refine CC.bF (by assumption) ?_) | (with_reducible refine GB.T (by assumption) ?_) | (with_reducible refine GB.F (by assumption) ?_) | (with_reducible refine GB.bT (by assumption) ?_) | (with_reducible refine GB.bF (by assumption) ?_) | (with_reducible refine CC.dT (by omega) ?_) | (with_reducible refine CC.dF (by omega) ?_) | (with_reducible refine CC.eT (by omega) ?_) | (with_reducible refine CC.eF (by omega) ?_) | (with_reducible refine GB.dT (by omega) ?_) | (with_reducible refine GB.dF (by omega) ?_) | (with_reducible refine GB.eT (by omega) ?_) | (with_reducible refine GB.eF (by omega) ?_) | (with_reducible refine CC.nT (by omega) ?_) | (with_reducible refine CC.nF (by omega) ?_) | (with_reducible refine CC.bb (fun hc => ?_) (fun hc => ?_)) | (with_reducible refine GB.bb (fun hc => ?_) (fun hc => ?_)) | (with_reducible refine CC.d (fun hc => ?_) (fun hc => ?_)) | (with_reducible refine CC.e (fun hc => ?_) (fun hc => ?_)) | (with_reducible refine CC.n (fun hc => ?_) (fun hc => ?_)) | (with_reducible refine CC.mk (fun hc => ?_) (fun hc => ?_)) | (with_reducible refine GB.d (fun hc => ?_) (fun hc => ?_)) | (with_reducible refine GB.e (fun hc => ?_) (fun hc => ?_)) | (with_reducible refine GB.n (fun hc => ?_) (fun hc => ?_)) | (with_reducible refine GB.mk (fun hc => ?_) (fun hc => ?_)) | (with_reducible refine And.intro (by first | omega | decide) ?_) | omega | decide | fail)
def bOf : List PV → Bytes
  | [_, .s b] => b
  | _ => []
def nOf : List PV → Int
  | [.i _ n, _] => n
  | _ => 0
theorem bases_form (k : Key) : ∀ y ∈ k.bases, ∃ n b, y = bas n b := by
  intro y hy
  simp only [Key.bases, List.mem_cons, List.mem_map] at hy
  rcases hy with rfl | rfl | rfl | rfl | ⟨b, -, rfl⟩ <;> exact ⟨_, _, rfl⟩
theorem bases_len (k : Key) : ∀ y ∈ k.bases, y.length = 2 := by
  intro y hy
  obtain ⟨n, b, rfl⟩ := bases_form k y hy; rfl
def kBad (m : Bytes) (y : List PV) : Bool := !rHas m [] (bOf y) || (nOf y == 2 && (bOf y == [1]))
def keyE (pe : Int) (k : Key) : Int := if pe ≠ 0 then pe else if !(validN k.m && validN k.o) then 3 else if !(k.bases.all fun y => validN (bOf y)) then 3 else if !nameB k.name then 1
  else if !(k.o == []) || decide (pwE k.m ≠ 0) then 13 else if k.r.length < 2 ∨ k.r.length > 18 then 6 else if k.bases.any (kBad k.m) then 13 else 0
theorem any_mid {α : Type} {p : α → Bool} {l a : List α} {y : α} {ys : List α} (h : l = a ++ y :: ys) (hy : p y = true) : l.any p = true := by
  rw [h]; simp [hy]
theorem any_snoc {α : Type} {p : α → Bool} {a : List α} {y : α} (h : a.any p = false) (hy : p y = false) : (a ++ [y]).any p = false := by simp [h, hy]
theorem all_mid {α : Type} {p : α → Bool} {l a : List α} {y : α} {ys : List α} (h : l = a ++ y :: ys) (hy : p y = false) : l.all p = false := by
  rw [h]; simp [hy]
theorem all_snoc {α : Type} {p : α → Bool} {a : List α} {y : α} (h : a.all p = true) (hy : p y = true) : (a ++ [y]).all p = true := by rw [List.all_append, h]; simp [hy]
theorem mid_snoc {α : Type} {l a : List α} {y : α} {ys : List α} (h : l = a ++ y :: ys) : l = (a ++ [y]) ++ ys := by rw [h]; simp
theorem keyCheck_ok (p : Par) (k : Key) (pe : Int) (hp : EvP Tryz.prog 25 [p.pv] (E pe)) (lm : k.m.length ≤ 8) (ln : k.name.length ≤ 60) (lr : k.r.length ≤ 20) : EvP Tryz.prog 12 [p.pv, k.pv] (E (keyE pe k)) := by
  have v1 := natValid k.m
  have v2 := natValid k.o
  have hb := bases_ok k
  have hnm := isName_ok k.name ln
  have hpw := pwCheck_ok k.m
  have hit := bases_it k (by omega)
  have hbl := bases_len k
  have hbf := bases_form k
  have hhas := pwHas_ok lm
  have hE : ∀ e, keyE pe k = e → EvP Tryz.prog 12 [p.pv, k.pv] (E e) → EvP Tryz.prog 12 [p.pv, k.pv] (E (keyE pe k)) := fun e h g => by rw [h]; exact g
  by_cases h0 : pe = 0
  case neg =>
    refine hE pe (by simp [keyE, h0]) ?_
    unfold Par.pv Key.pv at *
    refine EvP.w mixed Tryz.call12 Tryz.func12 rfl (by cbv) (by cbv) rfl ?_
    simp only [go_sem, seval, Bool.not_true, Bool.not_false]
    repeat' (first | (simp only [go_sem, seval, Bool.not_true, Bool.not_false]) | (refine CR_pure (hp) rfl ?_) | (simp (disch := omega) only [IntWalk.i64_in, IntWalk.u64_in]) | (with_reducible refine CC.T (by assumption) ?_) | (with_reducible refine CC.F (by assumption) ?_) | (with_reducible refine CC.bT (by assumption) ?_) | (with_reducible refine CC.bF (by assumption) ?_) | (with_reducible refine GB.T (by assumption) ?_) | (with_reducible refine GB.F (by assumption) ?_) | (with_reducible refine GB.bT (by assumption) ?_) | (with_reducible refine GB.bF (by assumption) ?_) | (with_reducible refine CC.dT (by omega) ?_) | (with_reducible refine CC.dF (by omega) ?_) | (with_reducible refine CC.eT (by omega) ?_) | (with_reducible refine CC.eF (by omega) ?_) | (with_reducible refine GB.dT (by omega) ?_) | (with_reducible refine GB.dF (by omega) ?_) | (with_reducible refine GB.eT (by omega) ?_) | (with_reducible refine GB.eF (by omega) ?_) | (with_reducible refine CC.nT (by omega) ?_) | (with_reducible refine CC.nF (by omega) ?_) | (with_reducible refine CC.bb (fun hc => ?_) (fun hc => ?_)) | (with_reducible refine GB.bb (fun hc => ?_) (fun hc => ?_)) | (with_reducible refine CC.d (fun hc => ?_) (fun hc => ?_)) | (with_reducible refine CC.e (fun hc => ?_) (fun hc => ?_)) | (with_reducible refine CC.n (fun hc => ?_) (fun hc => ?_)) | (with_reducible refine CC.mk (fun hc => ?_) (fun hc => ?_)) | (with_reducible refine GB.d (fun hc => ?_) (fun hc => ?_)) | (with_reducible refine GB.e (fun hc => ?_) (fun hc => ?_)) | (with_reducible refine GB.n (fun hc => ?_) (fun hc => ?_)) | (with_reducible refine GB.mk (fun hc => ?_) (fun hc => ?_)) | (with_reducible refine And.intro (by first | omega | decide) ?_) | omega | decide | fail)
  subst h0
  by_cases hv : validN k.m = true ∧ validN k.o = true
  case neg =>
    refine hE 3 (by have : (validN k.m && validN k.o) = false := by (rw [Bool.eq_false_iff]; intro g; simp at g; exact hv g)
                    simp [keyE, this]) ?_
    generalize validN k.m = b1 at *
    generalize validN k.o = b2 at *
    unfold Par.pv Key.pv at *
    refine EvP.w mixed Tryz.call12 Tryz.func12 rfl (by cbv) (by cbv) rfl ?_
    simp only [go_sem, seval, Bool.not_true, Bool.not_false]
    repeat' (first | (simp only [go_sem, seval, Bool.not_true, Bool.not_false]) | (refine CR_pure (hp) rfl ?_) | (refine CR_pure (v1) rfl ?_) | (refine CR_pure (v2) rfl ?_) | (simp (disch := omega) only [IntWalk.i64_in, IntWalk.u64_in]) | (with_reducible refine CC.T (by assumption) ?_) | (with_reducible refine CC.F (by assumption) ?_) | (with_reducible refine CC.bT (by assumption) ?_) | (with_reducible refine CC.bF (by assumption) ?_) | (with_reducible refine GB.T (by assumption) ?_) | (with_reducible refine GB.F (by assumption) ?_) | (with_reducible refine GB.bT (by assumption) ?_) | (with_reducible refine GB.bF (by assumption) ?_) | (with_reducible refine CC.dT (by omega) ?_) | (with_reducible refine CC.dF (by omega) ?_) | (with_reducible refine CC.eT (by omega) ?_) | (with_reducible refine CC.eF (by omega) ?_) | (with_reducible refine GB.dT (by omega) ?_) | (with_reducible refine GB.dF (by omega) ?_) | (with_reducible refine GB.eT (by omega) ?_) | (with_reducible refine GB.eF (by omega) ?_) | (with_reducible refine CC.nT (by omega) ?_) | (with_reducible refine CC.nF (by omega) ?_) | (with_reducible refine CC.bb (fun hc => ?_) (fun hc => ?_)) | (with_reducible refine GB.bb (fun hc => ?_) (fun hc => ?_)) | (with_reducible refine CC.d (fun hc => ?_) (fun hc => ?_)) | (with_reducible refine CC.e (fun hc => ?_) (fun hc => ?_)) | (with_reducible refine CC.n (fun hc => ?_) (fun hc => ?_)) | (with_reducible refine CC.mk (fun hc => ?_) (fun hc => ?_)) | (with_reducible refine GB.d (fun hc => ?_) (fun hc => ?_)) | (with_reducible refine GB.e (fun hc => ?_) (fun hc => ?_)) | (with_reducible refine GB.n (fun hc => ?_) (fun hc => ?_)) | (with_reducible refine GB.mk (fun hc => ?_) (fun hc => ?_)) | (with_reducible refine And.intro (by first | omega | decide) ?_) | omega | decide | fail)
    all_goals simp_all
  obtain ⟨hm, ho⟩ := hv
  rw [hm] at v1
  rw [ho] at v2
  clear hE
  unfold keyE
  rw [hm, ho, if_neg (by simp), if_neg (by simp)]
  unfold Par.pv at *
  have hkp : k.pv = .agg [.s k.name, .s k.m, .s k.o, .s k.z, .s k.s, .sl (k.r.map .s), .s k.u, .s k.h] := rfl
  rw [hkp] at hb hit ⊢
  clear hkp
  generalize k.bases = bs at *
  obtain ⟨name, m, o, z, s, r, u, h⟩ := k
  simp only at *
  refine EvP.w mixed Tryz.call12 Tryz.func12 rfl (by cbv) (by cbv) rfl ?_
  simp only [go_sem, seval, Bool.not_true, Bool.not_false]
  repeat' (first | (simp only [go_sem, seval, Bool.not_true, Bool.not_false]) | (refine CR_pure (hp) rfl ?_) | (refine CR_pure (v1) rfl ?_) | (refine CR_pure (v2) rfl ?_) | (refine CR_pure (hb) rfl ?_) | (refine CW_rng hit rfl hbl ?_) | (simp (disch := omega) only [IntWalk.i64_in, IntWalk.u64_in]) | (with_reducible refine CC.T (by assumption) ?_) | (with_reducible refine CC.F (by assumption) ?_) | (with_reducible refine CC.bT (by assumption) ?_) | (with_reducible refine CC.bF (by assumption) ?_) | (with_reducible refine GB.T (by assumption) ?_) | (with_reducible refine GB.F (by assumption) ?_) | (with_reducible refine GB.bT (by assumption) ?_) | (with_reducible refine GB.bF (by assumption) ?_) | (with_reducible refine CC.dT (by omega) ?_) | (with_reducible refine CC.dF (by omega) ?_) | (with_reducible refine CC.eT (by omega) ?_) | (with_reducible refine CC.eF (by omega) ?_) | (with_reducible refine GB.dT (by omega) ?_) | (with_reducible refine GB.dF (by omega) ?_) | (with_reducible refine GB.eT (by omega) ?_) | (with_reducible refine GB.eF (by omega) ?_) | (with_reducible refine CC.nT (by omega) ?_) | (with_reducible refine CC.nF (by omega) ?_) | (with_reducible refine CC.bb (fun hc => ?_) (fun hc => ?_)) | (with_reducible refine GB.bb (fun hc => ?_) (fun hc => ?_)) | (with_reducible refine CC.d (fun hc => ?_) (fun hc => ?_)) | (with_reducible refine CC.e (fun hc => ?_) (fun hc => ?_)) | (with_reducible refine CC.n (fun hc => ?_) (fun hc => ?_)) | (with_reducible refine CC.mk (fun hc => ?_) (fun hc => ?_)) | (with_reducible refine GB.d (fun hc => ?_) (fun hc => ?_)) | (with_reducible refine GB.e (fun hc => ?_) (fun hc => ?_)) | (with_reducible refine GB.n (fun hc => ?_) (fun hc => ?_)) | (with_reducible refine GB.mk (fun hc => ?_) (fun hc => ?_)) | (with_reducible refine And.intro (by first | omega | decide) ?_) | omega | decide | fail)
  refine rg_run (α := Unit) (fun _ => ⟨[(3, .p 1001 0 0), (4, .p 1002 0 0)], [(1001, ⟨0, [.v (.s name), .v (.s m), .v (.s o), .v (.s z), .v (.s s), .v (.sl (r.map .s)), .v (.s u), .v (.s h)], false, none⟩), (1002, ⟨0, [.v (E 0)], false, some 37⟩)], _⟩) (fun ys _ => ∃ pre, bs = pre ++ ys ∧ pre.all (fun y => validN (bOf y)) = true) () (fun _ => Nat.le_refl _) ⟨[], rfl, rfl⟩ ?_ ?_ ?_
  · (refine AS.Le.of (by first | decide | omega) ?_ ?_ <;> simp [LeT, LeH, tget, hget, AV.bd, AV.bd.bdL, u8, bd_cellsOf, bcells_bd, icells_bd])
  · rintro - ⟨pre, hpre, hall⟩
    rw [List.append_nil] at hpre
    subst hpre
    rw [hall, if_neg (by simp)]
    by_cases hn : nameB name = true
    case neg =>
      have hn : nameB name = false := by simpa using hn
      rw [hn] at hnm ⊢
      repeat' (first | (simp only [go_sem, seval, Bool.not_true, Bool.not_false]) | (refine CR_pure (hnm) rfl ?_) | (simp (disch := omega) only [IntWalk.i64_in, IntWalk.u64_in]) | (with_reducible refine CC.T (by assumption) ?_) | (with_reducible refine CC.F (by assumption) ?_) | (with_reducible refine CC.bT (by assumption) ?_) | (with_reducible refine CC.bF (by assumption) ?_) | (with_reducible refine GB.T (by assumption) ?_) | (with_reducible refine GB.F (by assumption) ?_) | (with_reducible refine GB.bT (by assumption) ?_) | (with_reducible refine GB.bF (by assumption) ?_) | (with_reducible refine CC.dT (by omega) ?_) | (with_reducible refine CC.dF (by omega) ?_) | (with_reducible refine CC.eT (by omega) ?_) | (with_reducible refine CC.eF (by omega) ?_) | (with_reducible refine GB.dT (by omega) ?_) | (with_reducible refine GB.dF (by omega) ?_) | (with_reducible refine GB.eT (by omega) ?_) | (with_reducible refine GB.eF (by omega) ?_) | (with_reducible refine CC.nT (by omega) ?_) | (with_reducible refine CC.nF (by omega) ?_) | (with_reducible refine CC.bb (fun hc => ?_) (fun hc => ?_)) | (with_reducible refine GB.bb (fun hc => ?_) (fun hc => ?_)) | (with_reducible refine CC.d (fun hc => ?_) (fun hc => ?_)) | (with_reducible refine CC.e (fun hc => ?_) (fun hc => ?_)) | (with_reducible refine CC.n (fun hc => ?_) (fun hc => ?_)) | (with_reducible refine CC.mk (fun hc => ?_) (fun hc => ?_)) | (with_reducible refine GB.d (fun hc => ?_) (fun hc => ?_)) | (with_reducible refine GB.e (fun hc => ?_) (fun hc => ?_)) | (with_reducible refine GB.n (fun hc => ?_) (fun hc => ?_)) | (with_reducible refine GB.mk (fun hc => ?_) (fun hc => ?_)) | (with_reducible refine And.intro (by first | omega | decide) ?_) | omega | decide | fail)
    rw [hn] at hnm ⊢
    rw [if_neg (by simp)]
    by_cases h1 : o = []
    case neg =>
      have h1 : (o == ([] : Bytes)) = false := by simpa using h1
      rw [h1, if_pos (by simp)]
      have h1' : (o != ([] : Bytes)) = true := by simp [bne, h1]
      repeat' (first | (simp only [go_sem, seval, Bool.not_true, Bool.not_false , h1, h1']) | (refine CR_pure (hnm) rfl ?_) | (simp (disch := omega) only [IntWalk.i64_in, IntWalk.u64_in]) | (with_reducible refine CC.T (by assumption) ?_) | (with_reducible refine CC.F (by assumption) ?_) | (with_reducible refine CC.bT (by assumption) ?_) | (with_reducible refine CC.bF (by assumption) ?_) | (with_reducible refine GB.T (by assumption) ?_) | (with_reducible refine GB.F (by assumption) ?_) | (with_reducible refine GB.bT (by assumption) ?_) | (with_reducible refine GB.bF (by assumption) ?_) | (with_reducible refine CC.dT (by omega) ?_) | (with_reducible refine CC.dF (by omega) ?_) | (with_reducible refine CC.eT (by omega) ?_) | (with_reducible refine CC.eF (by omega) ?_) | (with_reducible refine GB.dT (by omega) ?_) | (with_reducible refine GB.dF (by omega) ?_) | (with_reducible refine GB.eT (by omega) ?_) | (with_reducible refine GB.eF (by omega) ?_) | (with_reducible refine CC.nT (by omega) ?_) | (with_reducible refine CC.nF (by omega) ?_) | (with_reducible refine CC.bb (fun hc => ?_) (fun hc => ?_)) | (with_reducible refine GB.bb (fun hc => ?_) (fun hc => ?_)) | (with_reducible refine CC.d (fun hc => ?_) (fun hc => ?_)) | (with_reducible refine CC.e (fun hc => ?_) (fun hc => ?_)) | (with_reducible refine CC.n (fun hc => ?_) (fun hc => ?_)) | (with_reducible refine CC.mk (fun hc => ?_) (fun hc => ?_)) | (with_reducible refine GB.d (fun hc => ?_) (fun hc => ?_)) | (with_reducible refine GB.e (fun hc => ?_) (fun hc => ?_)) | (with_reducible refine GB.n (fun hc => ?_) (fun hc => ?_)) | (with_reducible refine GB.mk (fun hc => ?_) (fun hc => ?_)) | (with_reducible refine And.intro (by first | omega | decide) ?_) | omega | decide | fail)
    subst h1
    rw [nn]
    by_cases h2 : pwE m = 0
    case neg =>
      rw [if_pos (by simp [h2])]
      repeat' (first | (simp only [go_sem, seval, Bool.not_true, Bool.not_false , nn]) | (refine CR_pure (hnm) rfl ?_) | (refine CR_pure (hpw) rfl ?_) | (simp (disch := omega) only [IntWalk.i64_in, IntWalk.u64_in]) | (with_reducible refine CC.T (by assumption) ?_) | (with_reducible refine CC.F (by assumption) ?_) | (with_reducible refine CC.bT (by assumption) ?_) | (with_reducible refine CC.bF (by assumption) ?_) | (with_reducible refine GB.T (by assumption) ?_) | (with_reducible refine GB.F (by assumption) ?_) | (with_reducible refine GB.bT (by assumption) ?_) | (with_reducible refine GB.bF (by assumption) ?_) | (with_reducible refine CC.dT (by omega) ?_) | (with_reducible refine CC.dF (by omega) ?_) | (with_reducible refine CC.eT (by omega) ?_) | (with_reducible refine CC.eF (by omega) ?_) | (with_reducible refine GB.dT (by omega) ?_) | (with_reducible refine GB.dF (by omega) ?_) | (with_reducible refine GB.eT (by omega) ?_) | (with_reducible refine GB.eF (by omega) ?_) | (with_reducible refine CC.nT (by omega) ?_) | (with_reducible refine CC.nF (by omega) ?_) | (with_reducible refine CC.bb (fun hc => ?_) (fun hc => ?_)) | (with_reducible refine GB.bb (fun hc => ?_) (fun hc => ?_)) | (with_reducible refine CC.d (fun hc => ?_) (fun hc => ?_)) | (with_reducible refine CC.e (fun hc => ?_) (fun hc => ?_)) | (with_reducible refine CC.n (fun hc => ?_) (fun hc => ?_)) | (with_reducible refine CC.mk (fun hc => ?_) (fun hc => ?_)) | (with_reducible refine GB.d (fun hc => ?_) (fun hc => ?_)) | (with_reducible refine GB.e (fun hc => ?_) (fun hc => ?_)) | (with_reducible refine GB.n (fun hc => ?_) (fun hc => ?_)) | (with_reducible refine GB.mk (fun hc => ?_) (fun hc => ?_)) | (with_reducible refine And.intro (by first | omega | decide) ?_) | omega | decide | fail)
      all_goals first | (exact absurd (by assumption) h2) | skip
    rw [h2] at hpw
    rw [if_neg (by simp [h2])]
    by_cases h3 : r.length < 2 ∨ r.length > 18
    case pos =>
      rw [if_pos h3]
      repeat' (first | (simp only [go_sem, seval, Bool.not_true, Bool.not_false , nn]) | (refine CR_pure (hnm) rfl ?_) | (refine CR_pure (hpw) rfl ?_) | (simp (disch := omega) only [IntWalk.i64_in, IntWalk.u64_in]) | (with_reducible refine CC.T (by assumption) ?_) | (with_reducible refine CC.F (by assumption) ?_) | (with_reducible refine CC.bT (by assumption) ?_) | (with_reducible refine CC.bF (by assumption) ?_) | (with_reducible refine GB.T (by assumption) ?_) | (with_reducible refine GB.F (by assumption) ?_) | (with_reducible refine GB.bT (by assumption) ?_) | (with_reducible refine GB.bF (by assumption) ?_) | (with_reducible refine CC.dT (by omega) ?_) | (with_reducible refine CC.dF (by omega) ?_) | (with_reducible refine CC.eT (by omega) ?_) | (with_reducible refine CC.eF (by omega) ?_) | (with_reducible refine GB.dT (by omega) ?_) | (with_reducible refine GB.dF (by omega) ?_) | (with_reducible refine GB.eT (by omega) ?_) | (with_reducible refine GB.eF (by omega) ?_) | (with_reducible refine CC.nT (by omega) ?_) | (with_reducible refine CC.nF (by omega) ?_) | (with_reducible refine CC.bb (fun hc => ?_) (fun hc => ?_)) | (with_reducible refine GB.bb (fun hc => ?_) (fun hc => ?_)) | (with_reducible refine CC.d (fun hc => ?_) (fun hc => ?_)) | (with_reducible refine CC.e (fun hc => ?_) (fun hc => ?_)) | (with_reducible refine CC.n (fun hc => ?_) (fun hc => ?_)) | (with_reducible refine CC.mk (fun hc => ?_) (fun hc => ?_)) | (with_reducible refine GB.d (fun hc => ?_) (fun hc => ?_)) | (with_reducible refine GB.e (fun hc => ?_) (fun hc => ?_)) | (with_reducible refine GB.n (fun hc => ?_) (fun hc => ?_)) | (with_reducible refine GB.mk (fun hc => ?_) (fun hc => ?_)) | (with_reducible refine And.intro (by first | omega | decide) ?_) | omega | decide | fail)
    rw [if_neg h3]
    repeat' (first | (simp only [go_sem, seval, Bool.not_true, Bool.not_false , nn]) | (refine CR_pure (hnm) rfl ?_) | (refine CR_pure (hpw) rfl ?_) | (refine CR_pure (hb) rfl ?_) | (refine CW_rng hit rfl hbl ?_) | (simp (disch := omega) only [IntWalk.i64_in, IntWalk.u64_in]) | (with_reducible refine CC.T (by assumption) ?_) | (with_reducible refine CC.F (by assumption) ?_) | (with_reducible refine CC.bT (by assumption) ?_) | (with_reducible refine CC.bF (by assumption) ?_) | (with_reducible refine GB.T (by assumption) ?_) | (with_reducible refine GB.F (by assumption) ?_) | (with_reducible refine GB.bT (by assumption) ?_) | (with_reducible refine GB.bF (by assumption) ?_) | (with_reducible refine CC.dT (by omega) ?_) | (with_reducible refine CC.dF (by omega) ?_) | (with_reducible refine CC.eT (by omega) ?_) | (with_reducible refine CC.eF (by omega) ?_) | (with_reducible refine GB.dT (by omega) ?_) | (with_reducible refine GB.dF (by omega) ?_) | (with_reducible refine GB.eT (by omega) ?_) | (with_reducible refine GB.eF (by omega) ?_) | (with_reducible refine CC.nT (by omega) ?_) | (with_reducible refine CC.nF (by omega) ?_) | (with_reducible refine CC.bb (fun hc => ?_) (fun hc => ?_)) | (with_reducible refine GB.bb (fun hc => ?_) (fun hc => ?_)) | (with_reducible refine CC.d (fun hc => ?_) (fun hc => ?_)) | (with_reducible refine CC.e (fun hc => ?_) (fun hc => ?_)) | (with_reducible refine CC.n (fun hc => ?_) (fun hc => ?_)) | (with_reducible refine CC.mk (fun hc => ?_) (fun hc => ?_)) | (with_reducible refine GB.d (fun hc => ?_) (fun hc => ?_)) | (with_reducible refine GB.e (fun hc => ?_) (fun hc => ?_)) | (with_reducible refine GB.n (fun hc => ?_) (fun hc => ?_)) | (with_reducible refine GB.mk (fun hc => ?_) (fun hc => ?_)) | (with_reducible refine And.intro (by first | omega | decide) ?_) | omega | decide | fail)
    refine rg_run (α := Unit) (fun _ => ⟨[(3, .p 1001 0 0), (4, .p 1002 0 0)], [(1001, ⟨0, [.v (.s name), .v (.s m), .v (.s []), .v (.s z), .v (.s s), .v (.sl (r.map .s)), .v (.s u), .v (.s h)], false, none⟩), (1002, ⟨0, [.v (E 0)], false, some 37⟩)], _⟩) (fun ys _ => ∃ pre, bs = pre ++ ys ∧ pre.any (kBad m) = false) () (fun _ => Nat.le_refl _) ⟨[], rfl, rfl⟩ ?_ ?_ ?_
    · (refine AS.Le.of (by first | decide | omega) ?_ ?_ <;> simp [LeT, LeH, tget, hget, AV.bd, AV.bd.bdL, u8, bd_cellsOf, bcells_bd, icells_bd])
    · rintro - ⟨pre, hpre, hany⟩
      rw [List.append_nil] at hpre
      subst hpre
      rw [hany, if_neg (by simp)]
      repeat' (first | (simp only [go_sem, seval, Bool.not_true, Bool.not_false]) | (simp (disch := omega) only [IntWalk.i64_in, IntWalk.u64_in]) | (with_reducible refine CC.T (by assumption) ?_) | (with_reducible refine CC.F (by assumption) ?_) | (with_reducible refine CC.bT (by assumption) ?_) | (with_reducible refine CC.bF (by assumption) ?_) | (with_reducible refine GB.T (by assumption) ?_) | (with_reducible refine GB.F (by assumption) ?_) | (with_reducible refine GB.bT (by assumption) ?_) | (with_reducible refine GB.bF (by assumption) ?_) | (with_reducible refine CC.dT (by omega) ?_) | (with_reducible refine CC.dF (by omega) ?_) | (with_reducible refine CC.eT (by omega) ?_) | (with_reducible refine CC.eF (by omega) ?_) | (with_reducible refine GB.dT (by omega) ?_) | (with_reducible refine GB.dF (by omega) ?_) | (with_reducible refine GB.eT (by omega) ?_) | (with_reducible refine GB.eF (by omega) ?_) | (with_reducible refine CC.nT (by omega) ?_) | (with_reducible refine CC.nF (by omega) ?_) | (with_reducible refine CC.bb (fun hc => ?_) (fun hc => ?_)) | (with_reducible refine GB.bb (fun hc => ?_) (fun hc => ?_)) | (with_reducible refine CC.d (fun hc => ?_) (fun hc => ?_)) | (with_reducible refine CC.e (fun hc => ?_) (fun hc => ?_)) | (with_reducible refine CC.n (fun hc => ?_) (fun hc => ?_)) | (with_reducible refine CC.mk (fun hc => ?_) (fun hc => ?_)) | (with_reducible refine GB.d (fun hc => ?_) (fun hc => ?_)) | (with_reducible refine GB.e (fun hc => ?_) (fun hc => ?_)) | (with_reducible refine GB.n (fun hc => ?_) (fun hc => ?_)) | (with_reducible refine GB.mk (fun hc => ?_) (fun hc => ?_)) | (with_reducible refine And.intro (by first | omega | decide) ?_) | omega | decide | fail)
    · rintro y ys - ⟨pre, hpre, hany⟩ R hR
      obtain ⟨n, b, rfl⟩ := hbf y (by rw [hpre]; simp)
      have hb1 := hhas b
      have hbd : kBad m (bas n b) = true → bs.any (kBad m) = true := any_mid hpre
      have hgo : kBad m (bas n b) = false → ∀ s', _ → R s' := fun g => hR () ⟨_, mid_snoc hpre, any_snoc hany g⟩
      have e1 : kBad m (bas n b) = (!rHas m [] b || (n == 2 && (b == [1]))) := rfl
      rw [e1] at hbd hgo
      clear e1 hR
      generalize rHas m [] b = b1 at *
      repeat' (first | (simp only [go_sem, seval, Bool.not_true, Bool.not_false , bas]) | (refine CR_pure (hb1) rfl ?_) | (refine CR_pure (Of1) rfl ?_) | (simp (disch := omega) only [IntWalk.i64_in, IntWalk.u64_in]) | (with_reducible refine CC.T (by assumption) ?_) | (with_reducible refine CC.F (by assumption) ?_) | (with_reducible refine CC.bT (by assumption) ?_) | (with_reducible refine CC.bF (by assumption) ?_) | (with_reducible refine GB.T (by assumption) ?_) | (with_reducible refine GB.F (by assumption) ?_) | (with_reducible refine GB.bT (by assumption) ?_) | (with_reducible refine GB.bF (by assumption) ?_) | (with_reducible refine CC.dT (by omega) ?_) | (with_reducible refine CC.dF (by omega) ?_) | (with_reducible refine CC.eT (by omega) ?_) | (with_reducible refine CC.eF (by omega) ?_) | (with_reducible refine GB.dT (by omega) ?_) | (with_reducible refine GB.dF (by omega) ?_) | (with_reducible refine GB.eT (by omega) ?_) | (with_reducible refine GB.eF (by omega) ?_) | (with_reducible refine CC.nT (by omega) ?_) | (with_reducible refine CC.nF (by omega) ?_) | (with_reducible refine CC.bb (fun hc => ?_) (fun hc => ?_)) | (with_reducible refine GB.bb (fun hc => ?_) (fun hc => ?_)) | (with_reducible refine CC.d (fun hc => ?_) (fun hc => ?_)) | (with_reducible refine CC.e (fun hc => ?_) (fun hc => ?_)) | (with_reducible refine CC.n (fun hc => ?_) (fun hc => ?_)) | (with_reducible refine CC.mk (fun hc => ?_) (fun hc => ?_)) | (with_reducible refine GB.d (fun hc => ?_) (fun hc => ?_)) | (with_reducible refine GB.e (fun hc => ?_) (fun hc => ?_)) | (with_reducible refine GB.n (fun hc => ?_) (fun hc => ?_)) | (with_reducible refine GB.mk (fun hc => ?_) (fun hc => ?_)) | (with_reducible refine And.intro (by first | omega | decide) ?_) | omega | decide | fail)
      all_goals first
        | (rw [hbd (by simp_all), if_pos rfl]; done)
        | (refine hgo (by simp_all) _ ?_; (refine AS.Le.of (by first | decide | omega) ?_ ?_ <;> simp [LeT, LeH, tget, hget, AV.bd, AV.bd.bdL, u8, bd_cellsOf, bcells_bd, icells_bd]); done)
        | fail
  · rintro y ys - ⟨pre, hpre, hall⟩ R hR
    obtain ⟨n, b, rfl⟩ := hbf y (by rw [hpre]; simp)
    have vb := natValid b
    have hbd : validN b = false → bs.all (fun y => validN (bOf y)) = false := all_mid (p := fun y => validN (bOf y)) hpre
    have hgo : validN b = true → ∀ s', _ → R s' := fun g => hR () ⟨_, mid_snoc hpre, all_snoc (p := fun y => validN (bOf y)) hall g⟩
    generalize validN b = b1 at *
    repeat' (first | (simp only [go_sem, seval, Bool.not_true, Bool.not_false , bas]) | (refine CR_pure (vb) rfl ?_) | (simp (disch := omega) only [IntWalk.i64_in, IntWalk.u64_in]) | (with_reducible refine CC.T (by assumption) ?_) | (with_reducible refine CC.F (by assumption) ?_) | (with_reducible refine CC.bT (by assumption) ?_) | (with_reducible refine CC.bF (by assumption) ?_) | (with_reducible refine GB.T (by assumption) ?_) | (with_reducible refine GB.F (by assumption) ?_) | (with_reducible refine GB.bT (by assumption) ?_) | (with_reducible refine GB.bF (by assumption) ?_) | (with_reducible refine CC.dT (by omega) ?_) | (with_reducible refine CC.dF (by omega) ?_) | (with_reducible refine CC.eT (by omega) ?_) | (with_reducible refine CC.eF (by omega) ?_) | (with_reducible refine GB.dT (by omega) ?_) | (with_reducible refine GB.dF (by omega) ?_) | (with_reducible refine GB.eT (by omega) ?_) | (with_reducible refine GB.eF (by omega) ?_) | (with_reducible refine CC.nT (by omega) ?_) | (with_reducible refine CC.nF (by omega) ?_) | (with_reducible refine CC.bb (fun hc => ?_) (fun hc => ?_)) | (with_reducible refine GB.bb (fun hc => ?_) (fun hc => ?_)) | (with_reducible refine CC.d (fun hc => ?_) (fun hc => ?_)) | (with_reducible refine CC.e (fun hc => ?_) (fun hc => ?_)) | (with_reducible refine CC.n (fun hc => ?_) (fun hc => ?_)) | (with_reducible refine CC.mk (fun hc => ?_) (fun hc => ?_)) | (with_reducible refine GB.d (fun hc => ?_) (fun hc => ?_)) | (with_reducible refine GB.e (fun hc => ?_) (fun hc => ?_)) | (with_reducible refine GB.n (fun hc => ?_) (fun hc => ?_)) | (with_reducible refine GB.mk (fun hc => ?_) (fun hc => ?_)) | (with_reducible refine And.intro (by first | omega | decide) ?_) | omega | decide | fail)
    all_goals first
      | (rw [hbd (by simp_all), if_pos (by simp)]; done)
      | (refine hgo (by simp_all) _ ?_; (refine AS.Le.of (by first | decide | omega) ?_ ?_ <;> simp [LeT, LeH, tget, hget, AV.bd, AV.bd.bdL, u8, bd_cellsOf, bcells_bd, icells_bd]); done)
      | fail
def fBad (m o p q : Bytes) (y : List PV) : Bool := !(decide (elE m o p q (bOf y) = 0) && (if nOf y == 0 then sqB p q (bOf y) else genB p q (bOf y))) || decide (elE m o p q (bOf y) ≠ 0)
def fitsE (ke : Int) (k : Key) (p q : Bytes) : Int := if ke ≠ 0 then ke else if rCheckE k.m k.o p q ≠ 0 then rCheckE k.m k.o p q else if k.bases.any (fBad k.m k.o p q) then 13 else 0
theorem Fits_ok (pa : Par) (k : Key) (p q : Bytes) (ke : Int) (hk : EvP Tryz.prog 12 [pa.pv, k.pv] (E ke)) (lm : k.m.length ≤ 8) (lr : k.r.length ≤ 20) : EvP Tryz.prog 5 [pa.pv, k.pv, G p q] (E (fitsE ke k p q)) := by
  have hb := bases_ok k
  have hit := bases_it k (by omega)
  have hbl := bases_len k
  have hbf := bases_form k
  have hrc := rCheck_ok k.m k.o p q
  have hsq := IsSquare_ok lm k.o p q
  have hge := IsGenerator_ok lm k.o p q
  unfold fitsE
  unfold Par.pv at *
  have hkp : k.pv = .agg [.s k.name, .s k.m, .s k.o, .s k.z, .s k.s, .sl (k.r.map .s), .s k.u, .s k.h] := rfl
  rw [hkp] at hb hit hk ⊢
  clear hkp
  generalize k.bases = bs at *
  obtain ⟨name, m, o, z, s, r, u, h⟩ := k
  simp only at *
  by_cases h0 : ke = 0
  case neg =>
    rw [if_pos h0]
    refine EvP.w mixed Tryz.call5 Tryz.func5 rfl (by cbv) (by cbv) rfl ?_
    simp only [go_sem, seval, Bool.not_true, Bool.not_false]
    repeat' (first | (simp only [go_sem, seval, Bool.not_true, Bool.not_false]) | (refine CR_pure (hk) rfl ?_) | (simp (disch := omega) only [IntWalk.i64_in, IntWalk.u64_in]) | (with_reducible refine CC.T (by assumption) ?_) | (with_reducible refine CC.F (by assumption) ?_) | (with_reducible refine CC.bT (by assumption) ?_) | (with_reducible refine CC.bF (by assumption) ?_) | (with_reducible refine GB.T (by assumption) ?_) | (with_reducible refine GB.F (by assumption) ?_) | (with_reducible refine GB.bT (by assumption) ?_) | (with_reducible refine GB.bF (by assumption) ?_) | (with_reducible refine CC.dT (by omega) ?_) | (with_reducible refine CC.dF (by omega) ?_) | (with_reducible refine CC.eT (by omega) ?_) | (with_reducible refine CC.eF (by omega) ?_) | (with_reducible refine GB.dT (by omega) ?_) | (with_reducible refine GB.dF (by omega) ?_) | (with_reducible refine GB.eT (by omega) ?_) | (with_reducible refine GB.eF (by omega) ?_) | (with_reducible refine CC.nT (by omega) ?_) | (with_reducible refine CC.nF (by omega) ?_) | (with_reducible refine CC.bb (fun hc => ?_) (fun hc => ?_)) | (with_reducible refine GB.bb (fun hc => ?_) (fun hc => ?_)) | (with_reducible refine CC.d (fun hc => ?_) (fun hc => ?_)) | (with_reducible refine CC.e (fun hc => ?_) (fun hc => ?_)) | (with_reducible refine CC.n (fun hc => ?_) (fun hc => ?_)) | (with_reducible refine CC.mk (fun hc => ?_) (fun hc => ?_)) | (with_reducible refine GB.d (fun hc => ?_) (fun hc => ?_)) | (with_reducible refine GB.e (fun hc => ?_) (fun hc => ?_)) | (with_reducible refine GB.n (fun hc => ?_) (fun hc => ?_)) | (with_reducible refine GB.mk (fun hc => ?_) (fun hc => ?_)) | (with_reducible refine And.intro (by first | omega | decide) ?_) | omega | decide | fail)
  subst h0
  rw [if_neg (by simp)]
  by_cases h1 : rCheckE m o p q = 0
  case neg =>
    rw [if_pos h1]
    generalize rCheckE m o p q = ce at *
    refine EvP.w mixed Tryz.call5 Tryz.func5 rfl (by cbv) (by cbv) rfl ?_
    simp only [go_sem, seval, Bool.not_true, Bool.not_false]
    repeat' (first | (simp only [go_sem, seval, Bool.not_true, Bool.not_false]) | (refine CR_pure (hk) rfl ?_) | (refine CR_pure (hrc) rfl ?_) | (simp (disch := omega) only [IntWalk.i64_in, IntWalk.u64_in]) | (with_reducible refine CC.T (by assumption) ?_) | (with_reducible refine CC.F (by assumption) ?_) | (with_reducible refine CC.bT (by assumption) ?_) | (with_reducible refine CC.bF (by assumption) ?_) | (with_reducible refine GB.T (by assumption) ?_) | (with_reducible refine GB.F (by assumption) ?_) | (with_reducible refine GB.bT (by assumption) ?_) | (with_reducible refine GB.bF (by assumption) ?_) | (with_reducible refine CC.dT (by omega) ?_) | (with_reducible refine CC.dF (by omega) ?_) | (with_reducible refine CC.eT (by omega) ?_) | (with_reducible refine CC.eF (by omega) ?_) | (with_reducible refine GB.dT (by omega) ?_) | (with_reducible refine GB.dF (by omega) ?_) | (with_reducible refine GB.eT (by omega) ?_) | (with_reducible refine GB.eF (by omega) ?_) | (with_reducible refine CC.nT (by omega) ?_) | (with_reducible refine CC.nF (by omega) ?_) | (with_reducible refine CC.bb (fun hc => ?_) (fun hc => ?_)) | (with_reducible refine GB.bb (fun hc => ?_) (fun hc => ?_)) | (with_reducible refine CC.d (fun hc => ?_) (fun hc => ?_)) | (with_reducible refine CC.e (fun hc => ?_) (fun hc => ?_)) | (with_reducible refine CC.n (fun hc => ?_) (fun hc => ?_)) | (with_reducible refine CC.mk (fun hc => ?_) (fun hc => ?_)) | (with_reducible refine GB.d (fun hc => ?_) (fun hc => ?_)) | (with_reducible refine GB.e (fun hc => ?_) (fun hc => ?_)) | (with_reducible refine GB.n (fun hc => ?_) (fun hc => ?_)) | (with_reducible refine GB.mk (fun hc => ?_) (fun hc => ?_)) | (with_reducible refine And.intro (by first | omega | decide) ?_) | omega | decide | fail)
  rw [if_neg (by simp [h1])]
  rw [h1] at hrc
  refine EvP.w mixed Tryz.call5 Tryz.func5 rfl (by cbv) (by cbv) rfl ?_
  simp only [go_sem, seval, Bool.not_true, Bool.not_false]
  repeat' (first | (simp only [go_sem, seval, Bool.not_true, Bool.not_false]) | (refine CR_pure (hk) rfl ?_) | (refine CR_pure (hrc) rfl ?_) | (refine CR_pure (hb) rfl ?_) | (refine CW_rng hit rfl hbl ?_) | (simp (disch := omega) only [IntWalk.i64_in, IntWalk.u64_in]) | (with_reducible refine CC.T (by assumption) ?_) | (with_reducible refine CC.F (by assumption) ?_) | (with_reducible refine CC.bT (by assumption) ?_) | (with_reducible refine CC.bF (by assumption) ?_) | (with_reducible refine GB.T (by assumption) ?_) | (with_reducible refine GB.F (by assumption) ?_) | (with_reducible refine GB.bT (by assumption) ?_) | (with_reducible refine GB.bF (by assumption) ?_) | (with_reducible refine CC.dT (by omega) ?_) | (with_reducible refine CC.dF (by omega) ?_) | (with_reducible refine CC.eT (by omega) ?_) | (with_reducible refine CC.eF (by omega) ?_) | (with_reducible refine GB.dT (by omega) ?_) | (with_reducible refine GB.dF (by omega) ?_) | (with_reducible refine GB.eT (by omega) ?_) | (with_reducible refine GB.eF (by omega) ?_) | (with_reducible refine CC.nT (by omega) ?_) | (with_reducible refine CC.nF (by omega) ?_) | (with_reducible refine CC.bb (fun hc => ?_) (fun hc => ?_)) | (with_reducible refine GB.bb (fun hc => ?_) (fun hc => ?_)) | (with_reducible refine CC.d (fun hc => ?_) (fun hc => ?_)) | (with_reducible refine CC.e (fun hc => ?_) (fun hc => ?_)) | (with_reducible refine CC.n (fun hc => ?_) (fun hc => ?_)) | (with_reducible refine CC.mk (fun hc => ?_) (fun hc => ?_)) | (with_reducible refine GB.d (fun hc => ?_) (fun hc => ?_)) | (with_reducible refine GB.e (fun hc => ?_) (fun hc => ?_)) | (with_reducible refine GB.n (fun hc => ?_) (fun hc => ?_)) | (with_reducible refine GB.mk (fun hc => ?_) (fun hc => ?_)) | (with_reducible refine And.intro (by first | omega | decide) ?_) | omega | decide | fail)
  refine rg_run (α := Unit) (fun _ => ⟨[(4, .p 1001 0 0), (5, .p 1002 0 0), (6, .p 1003 0 0)], [(1001, ⟨0, [.v (.s name), .v (.s m), .v (.s o), .v (.s z), .v (.s s), .v (.sl (r.map .s)), .v (.s u), .v (.s h)], false, none⟩), (1002, ⟨0, [.v (.s p), .v (.s q)], false, none⟩), (1003, ⟨0, [.v (E 0)], false, some 37⟩)], _⟩) (fun ys _ => ∃ pre, bs = pre ++ ys ∧ pre.any (fBad m o p q) = false) () (fun _ => Nat.le_refl _) ⟨[], rfl, rfl⟩ ?_ ?_ ?_
  · (refine AS.Le.of (by first | decide | omega) ?_ ?_ <;> simp [LeT, LeH, tget, hget, AV.bd, AV.bd.bdL, u8, bd_cellsOf, bcells_bd, icells_bd])
  · rintro - ⟨pre, hpre, hany⟩
    rw [List.append_nil] at hpre
    subst hpre
    rw [hany, if_neg (by simp)]
    repeat' (first | (simp only [go_sem, seval, Bool.not_true, Bool.not_false]) | (simp (disch := omega) only [IntWalk.i64_in, IntWalk.u64_in]) | (with_reducible refine CC.T (by assumption) ?_) | (with_reducible refine CC.F (by assumption) ?_) | (with_reducible refine CC.bT (by assumption) ?_) | (with_reducible refine CC.bF (by assumption) ?_) | (with_reducible refine GB.T (by assumption) ?_) | (with_reducible refine GB.F (by assumption) ?_) | (with_reducible refine GB.bT (by assumption) ?_) | (with_reducible refine GB.bF (by assumption) ?_) | (with_reducible refine CC.dT (by omega) ?_) | (with_reducible refine CC.dF (by omega) ?_) | (with_reducible refine CC.eT (by omega) ?_) | (with_reducible refine CC.eF (by omega) ?_) | (with_reducible refine GB.dT (by omega) ?_) | (with_reducible refine GB.dF (by omega) ?_) | (with_reducible refine GB.eT (by omega) ?_) | (with_reducible refine GB.eF (by omega) ?_) | (with_reducible refine CC.nT (by omega) ?_) | (with_reducible refine CC.nF (by omega) ?_) | (with_reducible refine CC.bb (fun hc => ?_) (fun hc => ?_)) | (with_reducible refine GB.bb (fun hc => ?_) (fun hc => ?_)) | (with_reducible refine CC.d (fun hc => ?_) (fun hc => ?_)) | (with_reducible refine CC.e (fun hc => ?_) (fun hc => ?_)) | (with_reducible refine CC.n (fun hc => ?_) (fun hc => ?_)) | (with_reducible refine CC.mk (fun hc => ?_) (fun hc => ?_)) | (with_reducible refine GB.d (fun hc => ?_) (fun hc => ?_)) | (with_reducible refine GB.e (fun hc => ?_) (fun hc => ?_)) | (with_reducible refine GB.n (fun hc => ?_) (fun hc => ?_)) | (with_reducible refine GB.mk (fun hc => ?_) (fun hc => ?_)) | (with_reducible refine And.intro (by first | omega | decide) ?_) | omega | decide | fail)
  · rintro y ys - ⟨pre, hpre, hany⟩ R hR
    obtain ⟨n, b, rfl⟩ := hbf y (by rw [hpre]; simp)
    have hs := hsq b
    have hg := hge b
    have hbd : fBad m o p q (bas n b) = true → bs.any (fBad m o p q) = true := any_mid hpre
    have hgo : fBad m o p q (bas n b) = false → ∀ s', _ → R s' := fun g => hR () ⟨_, mid_snoc hpre, any_snoc hany g⟩
    have e1 : fBad m o p q (bas n b) = (!(decide (elE m o p q b = 0) && (if n == 0 then sqB p q b else genB p q b)) || decide (elE m o p q b ≠ 0)) := rfl
    rw [e1] at hbd hgo
    clear e1 hR hsq hge
    generalize sqB p q b = b1 at *
    generalize genB p q b = b2 at *
    generalize elE m o p q b = ee at *
    repeat' (first | (simp only [go_sem, seval, Bool.not_true, Bool.not_false , bas]) | (refine CR_pure (hs) rfl ?_) | (refine CR_pure (hg) rfl ?_) | (simp (disch := omega) only [IntWalk.i64_in, IntWalk.u64_in]) | (with_reducible refine CC.T (by assumption) ?_) | (with_reducible refine CC.F (by assumption) ?_) | (with_reducible refine CC.bT (by assumption) ?_) | (with_reducible refine CC.bF (by assumption) ?_) | (with_reducible refine GB.T (by assumption) ?_) | (with_reducible refine GB.F (by assumption) ?_) | (with_reducible refine GB.bT (by assumption) ?_) | (with_reducible refine GB.bF (by assumption) ?_) | (with_reducible refine CC.dT (by omega) ?_) | (with_reducible refine CC.dF (by omega) ?_) | (with_reducible refine CC.eT (by omega) ?_) | (with_reducible refine CC.eF (by omega) ?_) | (with_reducible refine GB.dT (by omega) ?_) | (with_reducible refine GB.dF (by omega) ?_) | (with_reducible refine GB.eT (by omega) ?_) | (with_reducible refine GB.eF (by omega) ?_) | (with_reducible refine CC.nT (by omega) ?_) | (with_reducible refine CC.nF (by omega) ?_) | (with_reducible refine CC.bb (fun hc => ?_) (fun hc => ?_)) | (with_reducible refine GB.bb (fun hc => ?_) (fun hc => ?_)) | (with_reducible refine CC.d (fun hc => ?_) (fun hc => ?_)) | (with_reducible refine CC.e (fun hc => ?_) (fun hc => ?_)) | (with_reducible refine CC.n (fun hc => ?_) (fun hc => ?_)) | (with_reducible refine CC.mk (fun hc => ?_) (fun hc => ?_)) | (with_reducible refine GB.d (fun hc => ?_) (fun hc => ?_)) | (with_reducible refine GB.e (fun hc => ?_) (fun hc => ?_)) | (with_reducible refine GB.n (fun hc => ?_) (fun hc => ?_)) | (with_reducible refine GB.mk (fun hc => ?_) (fun hc => ?_)) | (with_reducible refine And.intro (by first | omega | decide) ?_) | omega | decide | fail)
    all_goals first
      | (rw [hbd (by clear hbd hgo; rcases Classical.em (ee = 0) with he | he <;> simp_all), if_pos rfl]; done)
      | (refine hgo (by clear hbd hgo; rcases Classical.em (ee = 0) with he | he <;> simp_all) _ ?_; (refine AS.Le.of (by first | decide | omega) ?_ ?_ <;> simp [LeT, LeH, tget, hget, AV.bd, AV.bd.bdL, u8, bd_cellsOf, bcells_bd, icells_bd]); done)
      | skip
end Go.Proofs.YtpihmkhmhkopdaaGreatDoor
