/-
  WALKS of package natural: products. Own work.
-/
import Derived.Test.YtpihmkhmhkopdaaGreatDoorV0
import Derived.Test.YtpihmkhmhkopdaaGreatDoorV2
import Derived.Test.YtpihmkhmhkopdaaGreatDoorV3
import Derived.Test.YtpihmkhmhkopdaaGreatDoorB5
set_option linter.all false
namespace Go.Proofs.YtpihmkhmhkopdaaGreatDoor
open Go Go.Dom
set_option maxRecDepth 100000
set_option maxHeartbeats 4000000

abbrev E' (n : Nat) : AV := .v (.i .i64 n)
theorem product_ok (n nm : Nat) (a b : Bytes) (la : a.length ≤ 128) (lb : b.length ≤ 128) (el : Option TypeId) (zs : List Nat) (hz : zs = List.replicate 256 0) : EvA Tryz.prog 67 nm [(n, ⟨0, icells .i64 zs, false, el⟩)] [.v (.s a), .v (.s b), .p n 0 0] (.v (.s (bts (num a * num b)))) [(n, none)] := by
  refine EvA.w mixed Tryz.call67 Tryz.func67 rfl (by cbv) (by cbv) (obs := [⟨0, icells .i64 zs, false, el⟩]) (args := [.v (.s a), .v (.s b), .p 0 0 0]) (fs := [some none]) (j := none) (nw := none) (v := .v (.s (bts (num a * num b)))) (ns := [n]) (obsA := [⟨0, icells .i64 zs, false, el⟩]) rfl ?_ (by simp) (by simp) rfl (by simp [mapO, AObj.ren, renL_icells]) (by simp [mapO, AV.ren, ixOf]) (by simp [AV.ren]) (by simp [upsOf, outs])
  have r1 : (icells .i64 zs).length = 256 := by rw [icells_len, hz, List.length_replicate]
  have r2 : List.drop 256 (icells .i64 zs) = [] := List.drop_of_length_le (by rw [r1]; exact Nat.le_refl _)
  have r3 := icells_rep .i64 256
  rw [← hz] at r3
  simp only [go_sem, seval, r1, r2, r3, -List.reduceReplicate]
  refine loop_run (α := Nat × List Nat) (fun x => a.length - x.1) (fun x => ⟨[(0, .v (.s a)), (1, .v (.s b)), (2, .p 0 0 0), (18, .v (.i .i64 a.length)), (19, .v (.i .i64 x.1))], [(0, ⟨0, icells .i64 x.2, false, el⟩)], _⟩) (fun x => x.1 ≤ a.length ∧ Cols (num a) (num b) x.1 0 x.2) (0, zs) (fun _ => Nat.le_refl _) ⟨Nat.zero_le _, hz ▸ .start _ _⟩ ?_ ?_
  · (refine AS.Le.of (by first | decide | omega) ?_ ?_ <;> simp [LeT, LeH, tget, hget, AV.bd, AV.bd.bdL, u8, bd_cellsOf, bcells_bd, icells_bd])
    all_goals skip
  · rintro ⟨i, l⟩ ⟨hi, hl⟩ R hR
    simp only at hi hl
    have l1 : (icells .i64 l).length = 256 := by rw [icells_len, hl.len]
    by_cases hlt : i < a.length
    · repeat' (first | (simp only [go_sem, seval, Bool.not_true, Bool.not_false , l1]) | (refine CR_pure (digit_ok a i (by omega)) rfl ?_) | (simp (disch := omega) only [IntWalk.i64_in, IntWalk.u64_in]) | (with_reducible refine CC.T (by assumption) ?_) | (with_reducible refine CC.F (by assumption) ?_) | (with_reducible refine CC.bT (by assumption) ?_) | (with_reducible refine CC.bF (by assumption) ?_) | (with_reducible refine GB.T (by assumption) ?_) | (with_reducible refine GB.F (by assumption) ?_) | (with_reducible refine GB.bT (by assumption) ?_) | (with_reducible refine GB.bF (by assumption) ?_) | (with_reducible refine CC.dT (by omega) ?_) | (with_reducible refine CC.dF (by omega) ?_) | (with_reducible refine CC.eT (by omega) ?_) | (with_reducible refine CC.eF (by omega) ?_) | (with_reducible refine GB.dT (by omega) ?_) | (with_reducible refine GB.dF (by omega) ?_) | (with_reducible refine GB.eT (by omega) ?_) | (with_reducible refine GB.eF (by omega) ?_) | (with_reducible refine CC.nT (by omega) ?_) | (with_reducible refine CC.nF (by omega) ?_) | (with_reducible refine CC.bb (fun hc => ?_) (fun hc => ?_)) | (with_reducible refine GB.bb (fun hc => ?_) (fun hc => ?_)) | (with_reducible refine CC.d (fun hc => ?_) (fun hc => ?_)) | (with_reducible refine CC.e (fun hc => ?_) (fun hc => ?_)) | (with_reducible refine CC.n (fun hc => ?_) (fun hc => ?_)) | (with_reducible refine CC.mk (fun hc => ?_) (fun hc => ?_)) | (with_reducible refine GB.d (fun hc => ?_) (fun hc => ?_)) | (with_reducible refine GB.e (fun hc => ?_) (fun hc => ?_)) | (with_reducible refine GB.n (fun hc => ?_) (fun hc => ?_)) | (with_reducible refine GB.mk (fun hc => ?_) (fun hc => ?_)) | (with_reducible refine And.intro (by first | omega | decide) ?_) | omega | decide | fail)
      refine loop_run (α := Nat × List Nat) (fun x => b.length - x.1) (fun x => ⟨[(0, .v (.s a)), (1, .v (.s b)), (2, .p 0 0 0), (7, E' i), (8, E' (num a / 256 ^ i % 256)), (18, E' a.length), (19, E' i), (26, E' b.length), (27, E' x.1)], [(0, ⟨0, icells .i64 x.2, false, el⟩)], _⟩) (fun x => x.1 ≤ b.length ∧ Cols (num a) (num b) i x.1 x.2) (0, l) (fun _ => Nat.le_refl _) ⟨Nat.zero_le _, hl⟩ ?_ ?_
      · (refine AS.Le.of (by first | decide | omega) ?_ ?_ <;> simp [LeT, LeH, tget, hget, AV.bd, AV.bd.bdL, u8, bd_cellsOf, bcells_bd, icells_bd])
      · rintro ⟨k, m⟩ ⟨hk, hm⟩ R' hR'
        simp only at hk hm
        have m1 : (icells .i64 m).length = 256 := by rw [icells_len, hm.len]
        by_cases hklt : k < b.length
        · obtain ⟨x, hx⟩ : ∃ x, x = num a / 256 ^ i % 256 := ⟨_, rfl⟩
          obtain ⟨y, hy⟩ : ∃ y, y = num b / 256 ^ k % 256 := ⟨_, rfl⟩
          have hst := hm.step (by omega)
          rw [← hx, ← hy] at hst
          have hxy : x * y ≤ 65025 := Nat.mul_le_mul (by omega : x ≤ 255) (by omega : y ≤ 255)
          have hc := hm.hi (i + k) (Nat.le_refl _)
          have g1 : ∀ _ : True, (icells .i64 m).getD ((i : Int) + (k : Int)).toNat .u = .v (.i .i64 (m.getD (i + k) 0 : Nat)) := fun _ => by
            rw [show ((i : Int) + (k : Int)).toNat = i + k by omega, icells_get (by rw [hm.len]; omega)]
          have g2 : ∀ _ : True, IntKind.i64.wrap ((x : Int) * (y : Int)) = ((x * y : Nat) : Int) := fun _ => by
            rw [← Int.natCast_mul, IntWalk.i64_in _ (by omega)]
          have g3 : ∀ _ : True, IntKind.i64.wrap (((m.getD (i + k) 0 : Nat) : Int) + ((x * y : Nat) : Int)) = ((m.getD (i + k) 0 + x * y : Nat) : Int) := fun _ => by
            rw [← Int.natCast_add, IntWalk.i64_in _ (by omega)]
          have hd := digit_ok b k (by omega)
          rw [← hy] at hd
          rw [← hx]
          clear hy hxy
          repeat' (first | (simp only [go_sem, seval, Bool.not_true, Bool.not_false , m1, g1 trivial, g2 trivial, g3 trivial]) | (refine CR_pure (hd) rfl ?_) | (simp (disch := omega) only [IntWalk.i64_in, IntWalk.u64_in]) | (with_reducible refine CC.T (by assumption) ?_) | (with_reducible refine CC.F (by assumption) ?_) | (with_reducible refine CC.bT (by assumption) ?_) | (with_reducible refine CC.bF (by assumption) ?_) | (with_reducible refine GB.T (by assumption) ?_) | (with_reducible refine GB.F (by assumption) ?_) | (with_reducible refine GB.bT (by assumption) ?_) | (with_reducible refine GB.bF (by assumption) ?_) | (with_reducible refine CC.dT (by omega) ?_) | (with_reducible refine CC.dF (by omega) ?_) | (with_reducible refine CC.eT (by omega) ?_) | (with_reducible refine CC.eF (by omega) ?_) | (with_reducible refine GB.dT (by omega) ?_) | (with_reducible refine GB.dF (by omega) ?_) | (with_reducible refine GB.eT (by omega) ?_) | (with_reducible refine GB.eF (by omega) ?_) | (with_reducible refine CC.nT (by omega) ?_) | (with_reducible refine CC.nF (by omega) ?_) | (with_reducible refine CC.bb (fun hc => ?_) (fun hc => ?_)) | (with_reducible refine GB.bb (fun hc => ?_) (fun hc => ?_)) | (with_reducible refine CC.d (fun hc => ?_) (fun hc => ?_)) | (with_reducible refine CC.e (fun hc => ?_) (fun hc => ?_)) | (with_reducible refine CC.n (fun hc => ?_) (fun hc => ?_)) | (with_reducible refine CC.mk (fun hc => ?_) (fun hc => ?_)) | (with_reducible refine GB.d (fun hc => ?_) (fun hc => ?_)) | (with_reducible refine GB.e (fun hc => ?_) (fun hc => ?_)) | (with_reducible refine GB.n (fun hc => ?_) (fun hc => ?_)) | (with_reducible refine GB.mk (fun hc => ?_) (fun hc => ?_)) | (with_reducible refine And.intro (by first | omega | decide) ?_) | omega | decide | fail)
          refine hR' (k + 1, m.set (i + k) (m.getD (i + k) 0 + x * y)) ⟨by show k + 1 ≤ _; omega, hst⟩ (by show b.length - (k + 1) < b.length - k; omega) _ ?_
          rw [show ((i : Int) + (k : Int)).toNat = i + k by omega, icells_put (by rw [hm.len]; omega) rfl]
          (refine AS.Le.of (by first | decide | omega) ?_ ?_ <;> simp [LeT, LeH, tget, hget, AV.bd, AV.bd.bdL, u8, bd_cellsOf, bcells_bd, icells_bd])
          rw [hx]; simp
        · obtain rfl : k = b.length := by omega
          repeat' (first | (simp only [go_sem, seval, Bool.not_true, Bool.not_false]) | (simp (disch := omega) only [IntWalk.i64_in, IntWalk.u64_in]) | (with_reducible refine CC.T (by assumption) ?_) | (with_reducible refine CC.F (by assumption) ?_) | (with_reducible refine CC.bT (by assumption) ?_) | (with_reducible refine CC.bF (by assumption) ?_) | (with_reducible refine GB.T (by assumption) ?_) | (with_reducible refine GB.F (by assumption) ?_) | (with_reducible refine GB.bT (by assumption) ?_) | (with_reducible refine GB.bF (by assumption) ?_) | (with_reducible refine CC.dT (by omega) ?_) | (with_reducible refine CC.dF (by omega) ?_) | (with_reducible refine CC.eT (by omega) ?_) | (with_reducible refine CC.eF (by omega) ?_) | (with_reducible refine GB.dT (by omega) ?_) | (with_reducible refine GB.dF (by omega) ?_) | (with_reducible refine GB.eT (by omega) ?_) | (with_reducible refine GB.eF (by omega) ?_) | (with_reducible refine CC.nT (by omega) ?_) | (with_reducible refine CC.nF (by omega) ?_) | (with_reducible refine CC.bb (fun hc => ?_) (fun hc => ?_)) | (with_reducible refine GB.bb (fun hc => ?_) (fun hc => ?_)) | (with_reducible refine CC.d (fun hc => ?_) (fun hc => ?_)) | (with_reducible refine CC.e (fun hc => ?_) (fun hc => ?_)) | (with_reducible refine CC.n (fun hc => ?_) (fun hc => ?_)) | (with_reducible refine CC.mk (fun hc => ?_) (fun hc => ?_)) | (with_reducible refine GB.d (fun hc => ?_) (fun hc => ?_)) | (with_reducible refine GB.e (fun hc => ?_) (fun hc => ?_)) | (with_reducible refine GB.n (fun hc => ?_) (fun hc => ?_)) | (with_reducible refine GB.mk (fun hc => ?_) (fun hc => ?_)) | (with_reducible refine And.intro (by first | omega | decide) ?_) | omega | decide | fail)
          refine hR (i + 1, m) ⟨by show i + 1 ≤ _; omega, hm.row (num_lt b)⟩ (by show a.length - (i + 1) < a.length - i; omega) _ ?_
          (refine AS.Le.of (by first | decide | omega) ?_ ?_ <;> simp [LeT, LeH, tget, hget, AV.bd, AV.bd.bdL, u8, bd_cellsOf, bcells_bd, icells_bd])
    · obtain rfl : i = a.length := by omega
      repeat' (first | (simp only [go_sem, seval, Bool.not_true, Bool.not_false , l1, cellsZ]) | (simp (disch := omega) only [IntWalk.i64_in, IntWalk.u64_in]) | (with_reducible refine CC.T (by assumption) ?_) | (with_reducible refine CC.F (by assumption) ?_) | (with_reducible refine CC.bT (by assumption) ?_) | (with_reducible refine CC.bF (by assumption) ?_) | (with_reducible refine GB.T (by assumption) ?_) | (with_reducible refine GB.F (by assumption) ?_) | (with_reducible refine GB.bT (by assumption) ?_) | (with_reducible refine GB.bF (by assumption) ?_) | (with_reducible refine CC.dT (by omega) ?_) | (with_reducible refine CC.dF (by omega) ?_) | (with_reducible refine CC.eT (by omega) ?_) | (with_reducible refine CC.eF (by omega) ?_) | (with_reducible refine GB.dT (by omega) ?_) | (with_reducible refine GB.dF (by omega) ?_) | (with_reducible refine GB.eT (by omega) ?_) | (with_reducible refine GB.eF (by omega) ?_) | (with_reducible refine CC.nT (by omega) ?_) | (with_reducible refine CC.nF (by omega) ?_) | (with_reducible refine CC.bb (fun hc => ?_) (fun hc => ?_)) | (with_reducible refine GB.bb (fun hc => ?_) (fun hc => ?_)) | (with_reducible refine CC.d (fun hc => ?_) (fun hc => ?_)) | (with_reducible refine CC.e (fun hc => ?_) (fun hc => ?_)) | (with_reducible refine CC.n (fun hc => ?_) (fun hc => ?_)) | (with_reducible refine CC.mk (fun hc => ?_) (fun hc => ?_)) | (with_reducible refine GB.d (fun hc => ?_) (fun hc => ?_)) | (with_reducible refine GB.e (fun hc => ?_) (fun hc => ?_)) | (with_reducible refine GB.n (fun hc => ?_) (fun hc => ?_)) | (with_reducible refine GB.mk (fun hc => ?_) (fun hc => ?_)) | (with_reducible refine And.intro (by first | omega | decide) ?_) | omega | decide | fail)
      have hv := hl.v
      have ha := num_lt a
      rw [Nat.mod_eq_of_lt ha] at hv
      simp only [Nat.pow_zero, Nat.mod_one, Nat.mul_zero, Nat.zero_mul, Nat.add_zero] at hv
      obtain ⟨n, hn⟩ : ∃ n, n = a.length + b.length := ⟨_, rfl⟩
      have hn' : ((a.length : Int) + (b.length : Int)) = (n : Int) := by omega
      obtain ⟨T, hT⟩ : ∃ T, T = num a * num b := ⟨_, rfl⟩
      rw [← hT] at hv
      have hTl : T < 256 ^ n := by rw [hT, hn, Nat.pow_add]; exact Nat.mul_lt_mul'' ha (num_lt b)
      rw [← hT]
      simp only [hn', Int.toNat_natCast]
      refine loop_run (α := Nat) (fun i => n - i) (fun i => ⟨[(2, .p 0 0 0), (10, E' n), (11, .rs 1016 0 0 n 1), (12, E' (le (l.take i) / 256 ^ i)), (54, E' n), (55, E' i)], if i < n then [(0, ⟨0, icells .i64 l, false, el⟩), (1016, ⟨0, bcells (List.replicate (n - i) 0 ++ be i T), false, none⟩)] else [(1016, ⟨0, bcells (List.replicate (n - i) 0 ++ be i T), false, none⟩)], _⟩) (fun i => i ≤ n) 0 (fun _ => Nat.le_refl _) (Nat.zero_le _) ?_ ?_
      · by_cases h0 : 0 < n <;> simp only [h0, if_true, if_false] <;> (refine AS.Le.of (by first | decide | omega) ?_ ?_ <;> simp [LeT, LeH, tget, hget, AV.bd, AV.bd.bdL, u8, bd_cellsOf, bcells_bd, icells_bd]) <;> simp [le, be]
      · intro i hi R hR
        have hb := fillLen n i T hi
        by_cases hlt : i < n
        · obtain ⟨e1, e2⟩ := col_byte (l := l) (i := i) (by rw [hl.len]; omega) hv.symm
          have hm := hl.lo i
          have hc := hl.lo.carry i
          have g1 : ∀ _ : True, (icells .i64 l).getD i .u = .v (.i .i64 (l.getD i 0 : Nat)) := fun _ => icells_get (by rw [hl.len]; omega)
          have g2 : ∀ _ : True, IntKind.i64.wrap (((le (l.take i) / 256 ^ i : Nat) : Int) + ((l.getD i 0 : Nat) : Int)) = ((le (l.take i) / 256 ^ i + l.getD i 0 : Nat) : Int) := fun _ => by
            have hs : le (l.take i) / 256 ^ i + l.getD i 0 ≤ 65025 * (a.length + 1) + 65025 * (a.length + 1) := Nat.add_le_add hc hm
            rw [← Int.natCast_add]
            generalize le (l.take i) / 256 ^ i + l.getD i 0 = z at hs ⊢
            rw [IntWalk.i64_in _ (by omega)]
          rw [if_pos hlt]
          clear e1 e2 hm hc
          repeat' (first | (simp only [go_sem, seval, Bool.not_true, Bool.not_false , l1, g1 trivial, g2 trivial, hb]) | (simp (disch := omega) only [IntWalk.i64_in, IntWalk.u64_in]) | (with_reducible refine CC.T (by assumption) ?_) | (with_reducible refine CC.F (by assumption) ?_) | (with_reducible refine CC.bT (by assumption) ?_) | (with_reducible refine CC.bF (by assumption) ?_) | (with_reducible refine GB.T (by assumption) ?_) | (with_reducible refine GB.F (by assumption) ?_) | (with_reducible refine GB.bT (by assumption) ?_) | (with_reducible refine GB.bF (by assumption) ?_) | (with_reducible refine CC.dT (by omega) ?_) | (with_reducible refine CC.dF (by omega) ?_) | (with_reducible refine CC.eT (by omega) ?_) | (with_reducible refine CC.eF (by omega) ?_) | (with_reducible refine GB.dT (by omega) ?_) | (with_reducible refine GB.dF (by omega) ?_) | (with_reducible refine GB.eT (by omega) ?_) | (with_reducible refine GB.eF (by omega) ?_) | (with_reducible refine CC.nT (by omega) ?_) | (with_reducible refine CC.nF (by omega) ?_) | (with_reducible refine CC.bb (fun hc => ?_) (fun hc => ?_)) | (with_reducible refine GB.bb (fun hc => ?_) (fun hc => ?_)) | (with_reducible refine CC.d (fun hc => ?_) (fun hc => ?_)) | (with_reducible refine CC.e (fun hc => ?_) (fun hc => ?_)) | (with_reducible refine CC.n (fun hc => ?_) (fun hc => ?_)) | (with_reducible refine CC.mk (fun hc => ?_) (fun hc => ?_)) | (with_reducible refine GB.d (fun hc => ?_) (fun hc => ?_)) | (with_reducible refine GB.e (fun hc => ?_) (fun hc => ?_)) | (with_reducible refine GB.n (fun hc => ?_) (fun hc => ?_)) | (with_reducible refine GB.mk (fun hc => ?_) (fun hc => ?_)) | (with_reducible refine And.intro (by first | omega | decide) ?_) | omega | decide | fail)
          obtain ⟨e1, e2⟩ := col_byte (l := l) (i := i) (by rw [hl.len]; omega) hv.symm
          refine hR (i + 1) (by omega) (by omega) _ ?_
          rw [e2, show ((n : Int) - 1 - i).toNat = n - 1 - i by omega, bput (c := UInt8.ofNat (T / 256 ^ i)) (by omega) (by rw [wu8_nat, UInt8.toNat_ofNat', UInt8.toNat_ofNat']; exact congrArg _ e1), fill_set hlt]
          by_cases h0 : i + 1 < n <;> simp only [h0, if_true, if_false] <;> (refine AS.Le.of (by first | decide | omega) ?_ ?_ <;> simp [LeT, LeH, tget, hget, AV.bd, AV.bd.bdL, u8, bd_cellsOf, bcells_bd, icells_bd]) <;> rfl
        · obtain rfl : i = n := by omega
          have := trimmed_ok (be i T)
          have hl' : (be i T).length = i := be_len _ _
          rw [if_neg hlt]
          repeat' (first | (simp only [go_sem, seval, Bool.not_true, Bool.not_false , hl', Nat.sub_self, List.replicate_zero, true_or, or_true, false_or, or_false, Option.some.injEq, RetA, resLA, outV, outC, outO, viewC, hfV, foV, finH, finN, mkResA, mapO_outC_bcells, AV.ren, AV.ren.renL, renL_bcells]) | (refine CR_bytes this rfl rfl hl'.symm ?_) | (simp (disch := omega) only [IntWalk.i64_in, IntWalk.u64_in]) | (with_reducible refine CC.T (by assumption) ?_) | (with_reducible refine CC.F (by assumption) ?_) | (with_reducible refine CC.bT (by assumption) ?_) | (with_reducible refine CC.bF (by assumption) ?_) | (with_reducible refine GB.T (by assumption) ?_) | (with_reducible refine GB.F (by assumption) ?_) | (with_reducible refine GB.bT (by assumption) ?_) | (with_reducible refine GB.bF (by assumption) ?_) | (with_reducible refine CC.dT (by omega) ?_) | (with_reducible refine CC.dF (by omega) ?_) | (with_reducible refine CC.eT (by omega) ?_) | (with_reducible refine CC.eF (by omega) ?_) | (with_reducible refine GB.dT (by omega) ?_) | (with_reducible refine GB.dF (by omega) ?_) | (with_reducible refine GB.eT (by omega) ?_) | (with_reducible refine GB.eF (by omega) ?_) | (with_reducible refine CC.nT (by omega) ?_) | (with_reducible refine CC.nF (by omega) ?_) | (with_reducible refine CC.bb (fun hc => ?_) (fun hc => ?_)) | (with_reducible refine GB.bb (fun hc => ?_) (fun hc => ?_)) | (with_reducible refine CC.d (fun hc => ?_) (fun hc => ?_)) | (with_reducible refine CC.e (fun hc => ?_) (fun hc => ?_)) | (with_reducible refine CC.n (fun hc => ?_) (fun hc => ?_)) | (with_reducible refine CC.mk (fun hc => ?_) (fun hc => ?_)) | (with_reducible refine GB.d (fun hc => ?_) (fun hc => ?_)) | (with_reducible refine GB.e (fun hc => ?_) (fun hc => ?_)) | (with_reducible refine GB.n (fun hc => ?_) (fun hc => ?_)) | (with_reducible refine GB.mk (fun hc => ?_) (fun hc => ?_)) | (with_reducible refine And.intro (by first | omega | decide) ?_) | omega | decide | fail)
          rw [trim_be hTl]
def mulB (a b : Bytes) : Bytes × Int := if validN a && validN b then (if num a * num b < LIM then (bts (num a * num b), 0) else ([], 5)) else ([], 3)
theorem num8 {a : Bytes} (h : a.length ≤ 8) : num a < 18446744073709551616 := Nat.lt_of_lt_of_le (num_lt a) (Nat.pow_le_pow_right (by decide) h)
theorem Mul_ok (a b : Bytes) : EvP Tryz.prog 31 [.s a, .s b] (.tup [.s (mulB a b).1, E (mulB a b).2]) := by
  by_cases hv : validN a = true ∧ validN b = true
  case neg =>
    refine EvP.w mixed Tryz.call31 Tryz.func31 rfl (by cbv) (by cbv) rfl ?_
    simp only [go_sem, seval, Bool.not_true, Bool.not_false]
    repeat' (first | (simp only [go_sem, seval, Bool.not_true, Bool.not_false]) | (refine CR_pure (natValid _) rfl ?_) | (simp (disch := omega) only [IntWalk.i64_in, IntWalk.u64_in]) | (with_reducible refine CC.T (by assumption) ?_) | (with_reducible refine CC.F (by assumption) ?_) | (with_reducible refine CC.bT (by assumption) ?_) | (with_reducible refine CC.bF (by assumption) ?_) | (with_reducible refine GB.T (by assumption) ?_) | (with_reducible refine GB.F (by assumption) ?_) | (with_reducible refine GB.bT (by assumption) ?_) | (with_reducible refine GB.bF (by assumption) ?_) | (with_reducible refine CC.dT (by omega) ?_) | (with_reducible refine CC.dF (by omega) ?_) | (with_reducible refine CC.eT (by omega) ?_) | (with_reducible refine CC.eF (by omega) ?_) | (with_reducible refine GB.dT (by omega) ?_) | (with_reducible refine GB.dF (by omega) ?_) | (with_reducible refine GB.eT (by omega) ?_) | (with_reducible refine GB.eF (by omega) ?_) | (with_reducible refine CC.nT (by omega) ?_) | (with_reducible refine CC.nF (by omega) ?_) | (with_reducible refine CC.bb (fun hc => ?_) (fun hc => ?_)) | (with_reducible refine GB.bb (fun hc => ?_) (fun hc => ?_)) | (with_reducible refine CC.d (fun hc => ?_) (fun hc => ?_)) | (with_reducible refine CC.e (fun hc => ?_) (fun hc => ?_)) | (with_reducible refine CC.n (fun hc => ?_) (fun hc => ?_)) | (with_reducible refine CC.mk (fun hc => ?_) (fun hc => ?_)) | (with_reducible refine GB.d (fun hc => ?_) (fun hc => ?_)) | (with_reducible refine GB.e (fun hc => ?_) (fun hc => ?_)) | (with_reducible refine GB.n (fun hc => ?_) (fun hc => ?_)) | (with_reducible refine GB.mk (fun hc => ?_) (fun hc => ?_)) | (with_reducible refine And.intro (by first | omega | decide) ?_) | omega | decide | fail)
    all_goals simp_all [mulB]
  obtain ⟨hva, hvb⟩ := hv
  have la := len_of hva
  have lb := len_of hvb
  have sa := Small_ok a
  have sb := Small_ok b
  rw [hva, Bool.true_and] at sa
  rw [hvb, Bool.true_and] at sb
  have hlim : 18446744073709551616 ≤ LIM := by unfold LIM; decide +kernel
  by_cases h8 : a.length ≤ 8 ∧ b.length ≤ 8
  · rw [decide_eq_true h8.1] at sa
    rw [decide_eq_true h8.2] at sb
    have ha := num8 h8.1
    have hb := num8 h8.2
    refine EvP.w mixed Tryz.call31 Tryz.func31 rfl (by cbv) (by cbv) rfl ?_
    simp only [go_sem, seval, Bool.not_true, Bool.not_false]
    repeat' (first | (simp only [go_sem, seval, Bool.not_true, Bool.not_false , if_true]) | (refine CR_pure (natValid _) rfl ?_) | (refine CR_pure (sa) rfl ?_) | (refine CR_pure (sb) rfl ?_) | (refine CR_pure (Mul64_ok _ _ ha hb) rfl ?_) | (refine CR_pure (Of_ok _ (Nat.mod_lt _ (by decide))) rfl ?_) | (refine CR_eff (product_ok _ _ a b la lb _ (List.replicate 256 0) rfl) (by intro p hp; cases List.mem_singleton.1 hp; rfl) ?_) | (refine CR_pure (fitting_ok _) rfl ?_) | (simp (disch := omega) only [IntWalk.i64_in, IntWalk.u64_in]) | (with_reducible refine CC.T (by assumption) ?_) | (with_reducible refine CC.F (by assumption) ?_) | (with_reducible refine CC.bT (by assumption) ?_) | (with_reducible refine CC.bF (by assumption) ?_) | (with_reducible refine GB.T (by assumption) ?_) | (with_reducible refine GB.F (by assumption) ?_) | (with_reducible refine GB.bT (by assumption) ?_) | (with_reducible refine GB.bF (by assumption) ?_) | (with_reducible refine CC.dT (by omega) ?_) | (with_reducible refine CC.dF (by omega) ?_) | (with_reducible refine CC.eT (by omega) ?_) | (with_reducible refine CC.eF (by omega) ?_) | (with_reducible refine GB.dT (by omega) ?_) | (with_reducible refine GB.dF (by omega) ?_) | (with_reducible refine GB.eT (by omega) ?_) | (with_reducible refine GB.eF (by omega) ?_) | (with_reducible refine CC.nT (by omega) ?_) | (with_reducible refine CC.nF (by omega) ?_) | (with_reducible refine CC.bb (fun hc => ?_) (fun hc => ?_)) | (with_reducible refine GB.bb (fun hc => ?_) (fun hc => ?_)) | (with_reducible refine CC.d (fun hc => ?_) (fun hc => ?_)) | (with_reducible refine CC.e (fun hc => ?_) (fun hc => ?_)) | (with_reducible refine CC.n (fun hc => ?_) (fun hc => ?_)) | (with_reducible refine CC.mk (fun hc => ?_) (fun hc => ?_)) | (with_reducible refine GB.d (fun hc => ?_) (fun hc => ?_)) | (with_reducible refine GB.e (fun hc => ?_) (fun hc => ?_)) | (with_reducible refine GB.n (fun hc => ?_) (fun hc => ?_)) | (with_reducible refine GB.mk (fun hc => ?_) (fun hc => ?_)) | (with_reducible refine And.intro (by first | omega | decide) ?_) | omega | decide | fail)
    · have hp : num a * num b < 18446744073709551616 := by omega
      have hq : num a * num b < LIM := Nat.lt_of_lt_of_le hp hlim
      simp [mulB, hva, hvb, hq, Nat.mod_eq_of_lt hp]
    · simp only [lim_len, mulB, hva, hvb, Bool.and_self, if_true]
      split <;> simp
  · have hn : ¬ (a.length ≤ 8 ∧ b.length ≤ 8) := h8
    have hx : (if decide (a.length ≤ 8) = true then ((num a : Nat) : Int) else 0) = ((if a.length ≤ 8 then num a else 0 : Nat) : Int) := by by_cases g : a.length ≤ 8 <;> simp [g]
    have hy : (if decide (b.length ≤ 8) = true then ((num b : Nat) : Int) else 0) = ((if b.length ≤ 8 then num b else 0 : Nat) : Int) := by by_cases g : b.length ≤ 8 <;> simp [g]
    rw [hx] at sa
    rw [hy] at sb
    have ha : (if a.length ≤ 8 then num a else 0) < 18446744073709551616 := by split; exact num8 ‹_›; decide
    have hb : (if b.length ≤ 8 then num b else 0) < 18446744073709551616 := by split; exact num8 ‹_›; decide
    refine EvP.w mixed Tryz.call31 Tryz.func31 rfl (by cbv) (by cbv) rfl ?_
    simp only [go_sem, seval, Bool.not_true, Bool.not_false]
    repeat' (first | (simp only [go_sem, seval, Bool.not_true, Bool.not_false]) | (refine CR_pure (natValid _) rfl ?_) | (refine CR_pure (sa) rfl ?_) | (refine CR_pure (sb) rfl ?_) | (refine CR_pure (Mul64_ok _ _ ha hb) rfl ?_) | (refine CR_eff (product_ok _ _ a b la lb _ (List.replicate 256 0) rfl) (by intro p hp; cases List.mem_singleton.1 hp; rfl) ?_) | (refine CR_pure (fitting_ok _) rfl ?_) | (simp (disch := omega) only [IntWalk.i64_in, IntWalk.u64_in]) | (with_reducible refine CC.T (by assumption) ?_) | (with_reducible refine CC.F (by assumption) ?_) | (with_reducible refine CC.bT (by assumption) ?_) | (with_reducible refine CC.bF (by assumption) ?_) | (with_reducible refine GB.T (by assumption) ?_) | (with_reducible refine GB.F (by assumption) ?_) | (with_reducible refine GB.bT (by assumption) ?_) | (with_reducible refine GB.bF (by assumption) ?_) | (with_reducible refine CC.dT (by omega) ?_) | (with_reducible refine CC.dF (by omega) ?_) | (with_reducible refine CC.eT (by omega) ?_) | (with_reducible refine CC.eF (by omega) ?_) | (with_reducible refine GB.dT (by omega) ?_) | (with_reducible refine GB.dF (by omega) ?_) | (with_reducible refine GB.eT (by omega) ?_) | (with_reducible refine GB.eF (by omega) ?_) | (with_reducible refine CC.nT (by omega) ?_) | (with_reducible refine CC.nF (by omega) ?_) | (with_reducible refine CC.bb (fun hc => ?_) (fun hc => ?_)) | (with_reducible refine GB.bb (fun hc => ?_) (fun hc => ?_)) | (with_reducible refine CC.d (fun hc => ?_) (fun hc => ?_)) | (with_reducible refine CC.e (fun hc => ?_) (fun hc => ?_)) | (with_reducible refine CC.n (fun hc => ?_) (fun hc => ?_)) | (with_reducible refine CC.mk (fun hc => ?_) (fun hc => ?_)) | (with_reducible refine GB.d (fun hc => ?_) (fun hc => ?_)) | (with_reducible refine GB.e (fun hc => ?_) (fun hc => ?_)) | (with_reducible refine GB.n (fun hc => ?_) (fun hc => ?_)) | (with_reducible refine GB.mk (fun hc => ?_) (fun hc => ?_)) | (with_reducible refine And.intro (by first | omega | decide) ?_) | omega | decide | fail)
    all_goals simp only [lim_len, mulB, hva, hvb, Bool.and_self, if_true]
    all_goals (split <;> simp)
end Go.Proofs.YtpihmkhmhkopdaaGreatDoor
