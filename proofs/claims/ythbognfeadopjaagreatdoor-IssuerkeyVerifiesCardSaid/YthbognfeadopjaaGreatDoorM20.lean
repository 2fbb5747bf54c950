/-
  Part of the proof, part 20. Own work.
-/
import Derived.Test.YthbognfeadopjaaGreatDoorM19
set_option linter.all false
namespace Go.Dom
def le : List Nat → Nat
 | [] => 0
 | x :: r => x + 256 * le r
theorem le_set : ∀ (l : List Nat) (p v : Nat), p < l.length → le (l.set p (l.getD p 0 + v)) = le l + v * 256 ^ p
 | x :: r, 0, v, _ => by simp [le]; omega
 | x :: r, p + 1, v, h => by
  have := le_set r p v (by simpa using h)
  simp only [List.set_cons_succ, le, List.getD_cons_succ, this, Nat.pow_succ, Nat.mul_add]
  have e : 256 * (v * 256 ^ p) = v * (256 ^ p * 256) := by rw [Nat.mul_comm, Nat.mul_assoc]
  omega
theorem le_rep (n : Nat) : le (List.replicate n 0) = 0 := by induction n <;> simp_all [List.replicate_succ, le]
theorem le_split : ∀ (l : List Nat) (i : Nat), le l = le (l.take i) + 256 ^ i * le (l.drop i)
 | [], i => by simp [le]
 | x :: r, 0 => by simp [le]
 | x :: r, i + 1 => by
  have := le_split r i
  simp only [List.take_succ_cons, List.drop_succ_cons, le, Nat.pow_succ]
  rw [this, Nat.mul_add, ← Nat.mul_assoc, Nat.mul_comm 256 (256 ^ i)]; omega
theorem le_take_succ {l : List Nat} {i : Nat} (h : i < l.length) : le (l.take (i + 1)) = le (l.take i) + l.getD i 0 * 256 ^ i := by
 have h1 := le_split (l.take (i + 1)) i
 rw [List.take_take, Nat.min_eq_left (by omega)] at h1
 rw [h1]
 congr 1
 have : (l.take (i + 1)).drop i = [l.getD i 0] := by
  rw [List.drop_take, show i + 1 - i = 1 by omega, List.getD_eq_getElem?_getD, List.getElem?_eq_getElem h]
  rw [List.take_one, List.head?_drop, List.getElem?_eq_getElem h]; rfl
 rw [this]; simp [le, Nat.mul_comm]
theorem col_byte {l : List Nat} {i T : Nat} (h : i < l.length) (hT : T = le l) : (le (l.take i) / 256 ^ i + l.getD i 0) % 256 = T / 256 ^ i % 256 ∧ (le (l.take i) / 256 ^ i + l.getD i 0) / 256 = le (l.take (i + 1)) / 256 ^ (i + 1) := by
 have h1 := le_take_succ h
 have h2 := le_split l (i + 1)
 have hp := Nat.pow_pos (n := i) (show 0 < 256 by decide)
 have e1 : le (l.take (i + 1)) / 256 ^ i = le (l.take i) / 256 ^ i + l.getD i 0 := by rw [h1, Nat.add_mul_div_right _ _ hp]
 rw [← e1]
 constructor
 ·rw [hT, h2, Nat.pow_succ, Nat.mul_assoc, Nat.add_mul_div_left _ _ hp]; omega
 ·rw [Nat.pow_succ, Nat.div_div_eq_div_mul]
def Most (m : Nat) (l : List Nat) : Prop := ∀ i, l.getD i 0 ≤ m
theorem Most.rep (n m : Nat) : Most m (List.replicate n 0) := fun i => by
 rw [List.getD_eq_getElem?_getD]
 by_cases h : i < n <;> simp [h]
theorem Most.le {m : Nat} {l : List Nat} (h : Most m l) (i : Nat) : Dom.le (l.take i) ≤ m * 256 ^ i := by
 induction i with
 | zero => simp [Dom.le]
 | succ i ih =>
  by_cases hi : i < l.length
  ·rw [le_take_succ hi, Nat.pow_succ]
   have := Nat.mul_le_mul_right (256 ^ i) (h i)
   have e : m * (256 ^ i * 256) = m * 256 ^ i * 256 := by rw [Nat.mul_assoc]
   omega
  ·rw [List.take_of_length_le (by omega)] at ih ⊢
   exact Nat.le_trans ih (Nat.mul_le_mul_left _ (Nat.pow_le_pow_right (by decide) (by omega)))
theorem Most.carry {m : Nat} {l : List Nat} (h : Most m l) (i : Nat) : Dom.le (l.take i) / 256 ^ i ≤ m := by
 have := h.le i
 exact Nat.div_le_of_le_mul (by rw [Nat.mul_comm]; exact this)
structure Cols (L a b i k : Nat) (l : List Nat) : Prop where
 len : l.length = L
 v : le l = a % 256 ^ i * b + a / 256 ^ i % 256 * (b % 256 ^ k) * 256 ^ i
 lo : Most (65025 * (i + 1)) l
 hi : ∀ j, i + k ≤ j → l.getD j 0 ≤ 65025 * i
theorem Cols.start (L a b : Nat) : Cols L a b 0 0 (List.replicate L 0) := ⟨List.length_replicate, by rw [le_rep]; simp [Nat.mod_one], .rep _ _, fun j _ => Most.rep L 0 j⟩
theorem Cols.step {L a b i k : Nat} {l : List Nat} (h : Cols L a b i k l) (hp : i + k < L) : Cols L a b i (k + 1) (l.set (i + k) (l.getD (i + k) 0 + a / 256 ^ i % 256 * (b / 256 ^ k % 256))) := by
 have hv : a / 256 ^ i % 256 * (b / 256 ^ k % 256) ≤ 65025 := Nat.mul_le_mul (by omega : a / 256 ^ i % 256 ≤ 255) (by omega : b / 256 ^ k % 256 ≤ 255)
 have hh := h.hi (i + k) (Nat.le_refl _)
 refine ⟨by simp [h.len], ?_, fun j => ?_, fun j hj => ?_⟩
 ·rw [le_set _ _ _ (by rw [h.len]; exact hp), h.v, Nat.add_assoc]
  congr 1
  have e := Nat.mod_mul (x := b) (a := 256 ^ k) (b := 256)
  rw [show 256 ^ (k + 1) = 256 ^ k * 256 from Nat.pow_succ .., e, Nat.pow_add]
  generalize a / 256 ^ i % 256 = x
  generalize b / 256 ^ k % 256 = y
  generalize b % 256 ^ k = z
  rw [Nat.mul_add, Nat.add_mul, Nat.mul_assoc x y, Nat.mul_assoc x (256 ^ k * y), Nat.mul_comm (256 ^ i) (256 ^ k), ← Nat.mul_assoc y, Nat.mul_comm y (256 ^ k)]
 ·rw [List.getD_eq_getElem?_getD, List.getElem?_set]
  split
  ·split
   ·simp only [Option.getD_some]; omega
   ·simp
  ·have := h.lo j; rw [List.getD_eq_getElem?_getD] at this; exact this
 ·rw [List.getD_eq_getElem?_getD, List.getElem?_set_ne (by omega), ← List.getD_eq_getElem?_getD]
  exact h.hi j (by omega)
theorem Cols.row {L a b i k : Nat} {l : List Nat} (h : Cols L a b i k l) (hk : b < 256 ^ k) : Cols L a b (i + 1) 0 l := by
 refine ⟨h.len, ?_, fun j => by have := h.lo j; omega, fun j _ => by have := h.lo j; omega⟩
 rw [h.v, Nat.mod_eq_of_lt hk]
 have e := Nat.mod_mul (x := a) (a := 256 ^ i) (b := 256)
 rw [show 256 ^ (i + 1) = 256 ^ i * 256 from Nat.pow_succ .., e, Nat.add_mul]
 simp only [Nat.pow_zero, Nat.mod_one, Nat.mul_zero, Nat.zero_mul, Nat.add_zero]
 congr 1
 rw [Nat.mul_comm (256 ^ i), Nat.mul_assoc, Nat.mul_assoc, Nat.mul_comm b]
end Go.Dom
namespace Go.Proofs.YthbognfeadopjaaGreatDoor
open Go Go.Dom
set_option maxRecDepth 100000
set_option maxHeartbeats 4000000
abbrev E' (n : Nat) : AV := .v (.i .i64 n)
theorem product_ok (n nm : Nat) (a b : Bytes) (la : a.length ≤ 128) (lb : b.length ≤ 128) (el : Option TypeId) (zs : List Nat) (hz : zs = List.replicate 256 0) : EvA Tryz.prog 136 nm [(n, ⟨0, icells .i64 zs, false, el⟩)] [.v (.s a), .v (.s b), .p n 0 0] (.v (.s (bts (num a * num b)))) [(n, none)] := by
 refine EvA.w mixed Tryz.call136 Tryz.func136 rfl (tyC.1 _ _ _ (by cbv)) (tyC.2 _ _ (by cbv)) (obs := [⟨0, icells .i64 zs, false, el⟩]) (args := [.v (.s a), .v (.s b), .p 0 0 0]) (fs := [some none]) (j := none) (nw := none) (v := .v (.s (bts (num a * num b)))) (ns := [n]) (obsA := [⟨0, icells .i64 zs, false, el⟩]) rfl ?_ (by simp) (by simp) rfl (by simp [mapO, AObj.ren, renL_icells]) (by simp [mapO, AV.ren, ixOf]) (by simp [AV.ren]) (by simp [upsOf, outs])
 have r1 : (icells .i64 zs).length = 256 := by rw [icells_len, hz, List.length_replicate]
 have r2 : List.drop 256 (icells .i64 zs) = [] := List.drop_of_length_le (by rw [r1]; exact Nat.le_refl _)
 have r3 := icells_rep .i64 256
 rw [← hz] at r3
 simp only [go_sem, seval, r1, r2, r3, -List.reduceReplicate]
 refine loop_run (α := Nat × List Nat) (fun x => a.length - x.1) (fun x => ⟨[(0, .v (.s a)), (1, .v (.s b)), (2, .p 0 0 0), (18, .v (.i .i64 a.length)), (19, .v (.i .i64 x.1))], [(0, ⟨0, icells .i64 x.2, false, el⟩)], _⟩) (fun x => x.1 ≤ a.length ∧ Cols 256 (num a) (num b) x.1 0 x.2) (0, zs) (fun _ => Nat.le_refl _) ⟨Nat.zero_le _, hz ▸ .start _ _ _⟩ ?_ ?_
 ·(refine AS.Le.of (by first | decide | omega) ?_ ?_ <;> simp [LeT, LeH, tget, hget, AV.bd, AV.bd.bdL, u8, bd_cellsOf, bcells_bd, icells_bd])
  all_goals skip
 ·rintro ⟨i, l⟩ ⟨hi, hl⟩ R hR
  simp only at hi hl
  have l1 : (icells .i64 l).length = 256 := by rw [icells_len, hl.len]
  by_cases hlt : i < a.length
  ·repeat' (first | simp only [go_sem, seval, l1] | (refine CR_pure (digit_ok a i (by omega)) rfl ?_) | simp (disch := first | assumption | omega) only [bP, bW] | (first | apply pX | apply bX) <;> intro hc | refine ⟨oD, ?_⟩ | exact oD | fail)
   refine loop_run (α := Nat × List Nat) (fun x => b.length - x.1) (fun x => ⟨[(0, .v (.s a)), (1, .v (.s b)), (2, .p 0 0 0), (7, E' i), (8, E' (num a / 256 ^ i % 256)), (18, E' a.length), (19, E' i), (26, E' b.length), (27, E' x.1)], [(0, ⟨0, icells .i64 x.2, false, el⟩)], _⟩) (fun x => x.1 ≤ b.length ∧ Cols 256 (num a) (num b) i x.1 x.2) (0, l) (fun _ => Nat.le_refl _) ⟨Nat.zero_le _, hl⟩ ?_ ?_
   ·exact lE
   ·rintro ⟨k, m⟩ ⟨hk, hm⟩ R' hR'
    simp only at hk hm
    have m1 : (icells .i64 m).length = 256 := by rw [icells_len, hm.len]
    by_cases hklt : k < b.length
    ·obtain ⟨x, hx⟩ : ∃ x, x = num a / 256 ^ i % 256 := ⟨_, rfl⟩
     obtain ⟨y, hy⟩ : ∃ y, y = num b / 256 ^ k % 256 := ⟨_, rfl⟩
     have hst := hm.step (by omega)
     rw [← hx, ← hy] at hst
     have hxy : x * y ≤ 65025 := Nat.mul_le_mul (by omega : x ≤ 255) (by omega : y ≤ 255)
     have hc := hm.hi (i + k) (Nat.le_refl _)
     have g1 : ∀ _ : True, (icells .i64 m).getD ((i : Int) + (k : Int)).toNat .u = .v (.i .i64 (m.getD (i + k) 0 : Nat)) := fun _ => by
      rw [show ((i : Int) + (k : Int)).toNat = i + k by omega, icells_get (by rw [hm.len]; omega)]
     have g2 : ∀ _ : True, IntKind.i64.wrap ((x : Int) * (y : Int)) = ((x * y : Nat) : Int) := fun _ => by
      rw [← Int.natCast_mul, IntWalk.i64_in _ (by omega)]
     have g3 : ∀ _ : True, IntKind.i64.wrap (((m.getD (i + k) 0 : Nat) : Int) + ((x * y : Nat) : Int)) = ((m.getD (i + k) 0 + x * y : Nat) : Int) := fun _ => by
      rw [← Int.natCast_add, IntWalk.i64_in _ (by omega)]
     have hd := digit_ok b k (by omega)
     rw [← hy] at hd
     rw [← hx]
     clear hy hxy
     repeat' (first | simp only [go_sem, seval, m1, g1 trivial, g2 trivial, g3 trivial] | refine cP hd ?_ | simp (disch := first | assumption | omega) only [bP, bW] | (first | apply pX | apply bX) <;> intro hc | refine ⟨oD, ?_⟩ | exact oD | fail)
     refine hR' (k + 1, m.set (i + k) (m.getD (i + k) 0 + x * y)) ⟨by show k + 1 ≤ _; omega, hst⟩ (by show b.length - (k + 1) < b.length - k; omega) _ ?_
     rw [show ((i : Int) + (k : Int)).toNat = i + k by omega, icells_put (by rw [hm.len]; omega) rfl]
     (refine AS.Le.of (by first | decide | omega) ?_ ?_ <;> simp [LeT, LeH, tget, hget, AV.bd, AV.bd.bdL, u8, bd_cellsOf, bcells_bd, icells_bd])
     rw [hx]; simp
    ·obtain rfl : k = b.length := by omega
     repeat' (first | simp only [go_sem, seval] | simp (disch := first | assumption | omega) only [bP, bW] | (first | apply pX | apply bX) <;> intro hc | refine ⟨oD, ?_⟩ | exact oD | fail)
     refine hR (i + 1, m) ⟨by show i + 1 ≤ _; omega, hm.row (num_lt b)⟩ (by show a.length - (i + 1) < a.length - i; omega) _ ?_
     exact lE
  ·obtain rfl : i = a.length := by omega
   repeat' (first | simp only [go_sem, seval, l1, cellsZ] | simp (disch := first | assumption | omega) only [bP, bW] | (first | apply pX | apply bX) <;> intro hc | refine ⟨oD, ?_⟩ | exact oD | fail)
   have hv := hl.v
   have ha := num_lt a
   rw [Nat.mod_eq_of_lt ha] at hv
   simp only [Nat.pow_zero, Nat.mod_one, Nat.mul_zero, Nat.zero_mul, Nat.add_zero] at hv
   obtain ⟨n, hn⟩ : ∃ n, n = a.length + b.length := ⟨_, rfl⟩
   have hn' : ((a.length : Int) + (b.length : Int)) = (n : Int) := by omega
   obtain ⟨T, hT⟩ : ∃ T, T = num a * num b := ⟨_, rfl⟩
   rw [← hT] at hv
   have hTl : T < 256 ^ n := by rw [hT, hn, Nat.pow_add]; exact Nat.mul_lt_mul'' ha (num_lt b)
   rw [← hT]
   simp only [hn', Int.toNat_natCast]
   refine loop_run (α := Nat) (fun i => n - i) (fun i => ⟨[(2, .p 0 0 0), (10, E' n), (11, .rs 1016 0 0 n 1), (12, E' (le (l.take i) / 256 ^ i)), (54, E' n), (55, E' i)], if i < n then [(0, ⟨0, icells .i64 l, false, el⟩), (1016, ⟨0, bcells (List.replicate (n - i) 0 ++ be i T), false, none⟩)] else [(1016, ⟨0, bcells (List.replicate (n - i) 0 ++ be i T), false, none⟩)], _⟩) (fun i => i ≤ n) 0 (fun _ => Nat.le_refl _) (Nat.zero_le _) ?_ ?_
   ·by_cases h0 : 0 < n <;> simp only [h0, if_true, if_false] <;> (refine AS.Le.of (by first | decide | omega) ?_ ?_ <;> simp [LeT, LeH, tget, hget, AV.bd, AV.bd.bdL, u8, bd_cellsOf, bcells_bd, icells_bd]) <;> simp [le, be]
   ·intro i hi R hR
    have hb := fillLen n i T hi
    by_cases hlt : i < n
    ·obtain ⟨e1, e2⟩ := col_byte (l := l) (i := i) (by rw [hl.len]; omega) hv.symm
     have hm := hl.lo i
     have hc := hl.lo.carry i
     have g1 : ∀ _ : True, (icells .i64 l).getD i .u = .v (.i .i64 (l.getD i 0 : Nat)) := fun _ => icells_get (by rw [hl.len]; omega)
     have g2 : ∀ _ : True, IntKind.i64.wrap (((le (l.take i) / 256 ^ i : Nat) : Int) + ((l.getD i 0 : Nat) : Int)) = ((le (l.take i) / 256 ^ i + l.getD i 0 : Nat) : Int) := fun _ => by
      have hs : le (l.take i) / 256 ^ i + l.getD i 0 ≤ 65025 * (a.length + 1) + 65025 * (a.length + 1) := Nat.add_le_add hc hm
      rw [← Int.natCast_add]
      generalize le (l.take i) / 256 ^ i + l.getD i 0 = z at hs ⊢
      rw [IntWalk.i64_in _ (by omega)]
     rw [if_pos hlt]
     clear e1 e2 hm hc
     repeat' (first | simp only [go_sem, seval, l1, g1 trivial, g2 trivial, hb] | simp (disch := first | assumption | omega) only [bP, bW] | (first | apply pX | apply bX) <;> intro hc | refine ⟨oD, ?_⟩ | exact oD | fail)
     obtain ⟨e1, e2⟩ := col_byte (l := l) (i := i) (by rw [hl.len]; omega) hv.symm
     refine hR (i + 1) (by omega) (by omega) _ ?_
     rw [e2, show ((n : Int) - 1 - i).toNat = n - 1 - i by omega, bput (c := UInt8.ofNat (T / 256 ^ i)) (by omega) (by rw [wu8_nat, UInt8.toNat_ofNat', UInt8.toNat_ofNat']; exact congrArg _ e1), fill_set hlt]
     by_cases h0 : i + 1 < n <;> simp only [h0, if_true, if_false] <;> (refine AS.Le.of (by first | decide | omega) ?_ ?_ <;> simp [LeT, LeH, tget, hget, AV.bd, AV.bd.bdL, u8, bd_cellsOf, bcells_bd, icells_bd]) <;> rfl
    ·obtain rfl : i = n := by omega
     have := trimmed_ok (be i T)
     have hl' : (be i T).length = i := be_len _ _
     rw [if_neg hlt]
     repeat' (first | simp only [go_sem, seval, hl', Nat.sub_self, List.replicate_zero, true_or, or_true, false_or, or_false, Option.some.injEq, RetA, resLA, outV, outC, outO, viewC, hfV, foV, finH, finN, mkResA, mapO_outC_bcells, AV.ren, AV.ren.renL, renL_bcells] | (refine CR_bytes this rfl rfl hl'.symm ?_) | simp (disch := first | assumption | omega) only [bP, bW] | (first | apply pX | apply bX) <;> intro hc | refine ⟨oD, ?_⟩ | exact oD | fail)
     rw [trim_be hTl]
def mulB (a b : Bytes) : Bytes × Int := if validN a && validN b then (if num a * num b < LIM then (bts (num a * num b), 0) else ([], 5)) else ([], 3)
theorem num8 {a : Bytes} (h : a.length ≤ 8) : num a < 18446744073709551616 := Nat.lt_of_lt_of_le (num_lt a) (Nat.pow_le_pow_right (by decide) h)
theorem Mul_ok (a b : Bytes) : EvP Tryz.prog 67 [.s a, .s b] (.tup [.s (mulB a b).1, E (mulB a b).2]) := by
 by_cases hv : validN a = true ∧ validN b = true
 case neg =>
  refine eW Tryz.call67 Tryz.func67 ?_
  repeat' (first | simp only [go_sem, seval] | refine cP (natValid _) ?_ | simp (disch := first | assumption | omega) only [bP, bW] | (first | apply pX | apply bX) <;> intro hc | refine ⟨oD, ?_⟩ | exact oD | fail)
  all_goals simp_all [mulB]
 obtain ⟨hva, hvb⟩ := hv
 have la := len_of hva
 have lb := len_of hvb
 have sa := Small_ok a
 have sb := Small_ok b
 rw [hva, Bool.true_and] at sa
 rw [hvb, Bool.true_and] at sb
 have hlim : 18446744073709551616 ≤ LIM := by unfold LIM; decide +kernel
 by_cases h8 : a.length ≤ 8 ∧ b.length ≤ 8
 ·rw [decide_eq_true h8.1] at sa
  rw [decide_eq_true h8.2] at sb
  have ha := num8 h8.1
  have hb := num8 h8.2
  refine eW Tryz.call67 Tryz.func67 ?_
  repeat' (first | simp only [go_sem, seval, if_true] | refine cP (natValid _) ?_ | refine cP sa ?_ | refine cP sb ?_ | refine cP (Mul64_ok _ _ ha hb) ?_ | (refine CR_pure (Of_ok _ (Nat.mod_lt _ (by decide))) rfl ?_) | (refine CR_eff (product_ok _ _ a b la lb _ (List.replicate 256 0) rfl) (by intro p hp; cases List.mem_singleton.1 hp; rfl) ?_) | refine cP (fitting_ok _) ?_ | simp (disch := first | assumption | omega) only [bP, bW] | (first | apply pX | apply bX) <;> intro hc | refine ⟨oD, ?_⟩ | exact oD | fail)
  ·have hp : num a * num b < 18446744073709551616 := by omega
   have hq : num a * num b < LIM := Nat.lt_of_lt_of_le hp hlim
   simp [mulB, hva, hvb, hq, Nat.mod_eq_of_lt hp]
  ·simp only [lim_len, mulB, hva, hvb, Bool.and_self, if_true]
   split <;> simp
 ·have hn : ¬ (a.length ≤ 8 ∧ b.length ≤ 8) := h8
  have hx : (if decide (a.length ≤ 8) = true then ((num a : Nat) : Int) else 0) = ((if a.length ≤ 8 then num a else 0 : Nat) : Int) := by by_cases g : a.length ≤ 8 <;> simp [g]
  have hy : (if decide (b.length ≤ 8) = true then ((num b : Nat) : Int) else 0) = ((if b.length ≤ 8 then num b else 0 : Nat) : Int) := by by_cases g : b.length ≤ 8 <;> simp [g]
  rw [hx] at sa
  rw [hy] at sb
  have ha : (if a.length ≤ 8 then num a else 0) < 18446744073709551616 := by split; exact num8 ‹_›; decide
  have hb : (if b.length ≤ 8 then num b else 0) < 18446744073709551616 := by split; exact num8 ‹_›; decide
  refine eW Tryz.call67 Tryz.func67 ?_
  repeat' (first | simp only [go_sem, seval] | refine cP (natValid _) ?_ | refine cP sa ?_ | refine cP sb ?_ | refine cP (Mul64_ok _ _ ha hb) ?_ | (refine CR_eff (product_ok _ _ a b la lb _ (List.replicate 256 0) rfl) (by intro p hp; cases List.mem_singleton.1 hp; rfl) ?_) | refine cP (fitting_ok _) ?_ | simp (disch := first | assumption | omega) only [bP, bW] | (first | apply pX | apply bX) <;> intro hc | refine ⟨oD, ?_⟩ | exact oD | fail)
  all_goals simp only [lim_len, mulB, hva, hvb, Bool.and_self, if_true]
  all_goals (split <;> simp)
end Go.Proofs.YthbognfeadopjaaGreatDoor
namespace Go.Proofs.YthbognfeadopjaaGreatDoor
open Go Go.Dom
set_option maxRecDepth 100000
set_option maxHeartbeats 8000000
theorem rTimes_ok (a b : Bytes) (la : a.length < 1048576) (lb : b.length < 1048576) : EvP Tryz.prog 193 [.s a, .s b] (.s (bts (num a * num b))) := by
 obtain ⟨n, hn⟩ : ∃ n, n = a.length + b.length := ⟨_, rfl⟩
 have hn' : ((a.length : Int) + (b.length : Int)) = (n : Int) := by omega
 have hmul : num a * num b < 256 ^ n := by rw [hn, Nat.pow_add]; exact Nat.mul_lt_mul'' (num_lt a) (num_lt b)
 by_cases h8 : n ≤ 8
 ·have hu1 := rU64_ok a (by omega)
  have hu2 := rU64_ok b (by omega)
  have hp : num a * num b < 18446744073709551616 := Nat.lt_of_lt_of_le hmul (Nat.pow_le_pow_right (by decide) h8)
  have ho := rOf_ok (num a * num b) hp
  have hw : ∀ _ : True, IntKind.u64.wrap ((num a : Int) * (num b : Int)) = ((num a * num b : Nat) : Int) := fun _ => by
   rw [← Int.natCast_mul, IntWalk.u64_in _ (by omega)]
  clear hmul
  refine eW Tryz.call193 Tryz.func193 ?_
  repeat' (first | simp only [go_sem, seval, hn', hw trivial] | refine cP hu1 ?_ | refine cP hu2 ?_ | refine cP ho ?_ | simp (disch := first | assumption | omega) only [bP, bW] | (first | apply pX | apply bX) <;> intro hc | refine ⟨oD, ?_⟩ | exact oD | fail)
 have hcz : ∀ m : Nat, (List.replicate m [AV.v (PV.i IntKind.i64 0)]).flatten = icells .i64 (List.replicate m 0) := by
  intro m
  induction m with
  | zero => rfl
  | succ m ih => rw [List.replicate_succ, List.flatten_cons, ih, List.replicate_succ]; rfl
 have hw1 : ∀ _ : True, ((n : Int) + 1) = ((n + 1 : Nat) : Int) := fun _ => rfl
 refine eW Tryz.call193 Tryz.func193 ?_
 repeat' (first | simp only [go_sem, seval, hn', cellsZ, hw1 trivial, hcz] | simp (disch := first | assumption | omega) only [bP, bW] | (first | apply pX | apply bX) <;> intro hc | refine ⟨oD, ?_⟩ | exact oD | fail)
 refine loop_run (α := Nat × List Nat) (fun x => a.length - x.1) (fun x => ⟨[(0, .v (.s a)), (1, .v (.s b)), (5, E' n), (6, .rs 1015 0 0 (n + 1) 1), (7, .v (.i .i64 x.1))], [(1015, ⟨0, icells .i64 x.2, false, none⟩)], _⟩) (fun x => x.1 ≤ a.length ∧ Cols (n + 1) (num a) (num b) x.1 0 x.2) (0, List.replicate (n + 1) 0) (fun _ => Nat.le_refl _) ⟨Nat.zero_le _, .start _ _ _⟩ ?_ ?_
 ·(refine AS.Le.of (by first | decide | omega) ?_ ?_ <;> simp [LeT, LeH, tget, hget, AV.bd, AV.bd.bdL, u8, bd_cellsOf, bcells_bd, icells_bd])
  all_goals skip
 ·rintro ⟨i, l⟩ ⟨hi, hl⟩ R hR
  simp only at hi hl
  have l1 : (icells .i64 l).length = n + 1 := by rw [icells_len, hl.len]
  by_cases hlt : i < a.length
  ·repeat' (first | simp only [go_sem, seval, l1] | simp (disch := first | assumption | omega) only [bP, bW] | (first | apply pX | apply bX) <;> intro hc | refine ⟨oD, ?_⟩ | exact oD | fail)
   refine loop_run (α := Nat × List Nat) (fun x => b.length - x.1) (fun x => ⟨[(0, .v (.s a)), (1, .v (.s b)), (5, E' n), (6, .rs 1015 0 0 (n + 1) 1), (7, E' i), (8, E' x.1)], [(1015, ⟨0, icells .i64 x.2, false, none⟩)], _⟩) (fun x => x.1 ≤ b.length ∧ Cols (n + 1) (num a) (num b) i x.1 x.2) (0, l) (fun _ => Nat.le_refl _) ⟨Nat.zero_le _, hl⟩ ?_ ?_
   ·exact lE
   ·rintro ⟨k, m⟩ ⟨hk, hm⟩ R' hR'
    simp only at hk hm
    have m1 : (icells .i64 m).length = n + 1 := by rw [icells_len, hm.len]
    by_cases hklt : k < b.length
    ·obtain ⟨x, hx⟩ : ∃ x, x = num a / 256 ^ i % 256 := ⟨_, rfl⟩
     obtain ⟨y, hy⟩ : ∃ y, y = num b / 256 ^ k % 256 := ⟨_, rfl⟩
     have hst := hm.step (by omega)
     rw [← hx, ← hy] at hst
     have hxy : x * y ≤ 65025 := Nat.mul_le_mul (by omega : x ≤ 255) (by omega : y ≤ 255)
     have hc := hm.hi (i + k) (Nat.le_refl _)
     have g1 : ∀ _ : True, (icells .i64 m).getD ((i : Int) + (k : Int)).toNat .u = .v (.i .i64 (m.getD (i + k) 0 : Nat)) := fun _ => by
      rw [show ((i : Int) + (k : Int)).toNat = i + k by omega, icells_get (by rw [hm.len]; omega)]
     have g2 : ∀ _ : True, IntKind.i64.wrap ((x : Int) * (y : Int)) = ((x * y : Nat) : Int) := fun _ => by
      rw [← Int.natCast_mul, IntWalk.i64_in _ (by omega)]
     have g3 : ∀ _ : True, IntKind.i64.wrap (((m.getD (i + k) 0 : Nat) : Int) + ((x * y : Nat) : Int)) = ((m.getD (i + k) 0 + x * y : Nat) : Int) := fun _ => by
      rw [← Int.natCast_add, IntWalk.i64_in _ (by omega)]
     have hd1 := rAt_ok a i (by omega)
     have hd := rAt_ok b k (by omega)
     rw [← hy] at hd
     rw [← hx] at hd1
     clear hy hxy hx
     repeat' (first | simp only [go_sem, seval, m1, g1 trivial, g2 trivial, g3 trivial] | refine cP hd1 ?_ | refine cP hd ?_ | simp (disch := first | assumption | omega) only [bP, bW] | (first | apply pX | apply bX) <;> intro hc | refine ⟨oD, ?_⟩ | exact oD | fail)
     refine hR' (k + 1, m.set (i + k) (m.getD (i + k) 0 + x * y)) ⟨by show k + 1 ≤ _; omega, hst⟩ (by show b.length - (k + 1) < b.length - k; omega) _ ?_
     rw [show ((i : Int) + (k : Int)).toNat = i + k by omega, icells_put (by rw [hm.len]; omega) rfl]
     exact lE
    ·obtain rfl : k = b.length := by omega
     repeat' (first | simp only [go_sem, seval] | simp (disch := first | assumption | omega) only [bP, bW] | (first | apply pX | apply bX) <;> intro hc | refine ⟨oD, ?_⟩ | exact oD | fail)
     refine hR (i + 1, m) ⟨by show i + 1 ≤ _; omega, hm.row (num_lt b)⟩ (by show a.length - (i + 1) < a.length - i; omega) _ ?_
     exact lE
  ·obtain rfl : i = a.length := by omega
   repeat' (first | simp only [go_sem, seval, l1, cellsZ] | simp (disch := first | assumption | omega) only [bP, bW] | (first | apply pX | apply bX) <;> intro hc | refine ⟨oD, ?_⟩ | exact oD | fail)
   have hv := hl.v
   have ha := num_lt a
   rw [Nat.mod_eq_of_lt ha] at hv
   simp only [Nat.pow_zero, Nat.mod_one, Nat.mul_zero, Nat.zero_mul, Nat.add_zero] at hv
   obtain ⟨T, hT⟩ : ∃ T, T = num a * num b := ⟨_, rfl⟩
   rw [← hT] at hv
   have hTl : T < 256 ^ n := by rw [hT]; exact hmul
   rw [← hT]
   refine loop_run (α := Nat) (fun i => n - i) (fun i => ⟨[(5, E' n), (6, .rs 1015 0 0 (n + 1) 1), (9, .rs 1023 0 0 n 1), (10, E' (le (l.take i) / 256 ^ i)), (11, E' i)], [(1015, ⟨0, icells .i64 l, false, none⟩), (1023, ⟨0, bcells (List.replicate (n - i) 0 ++ be i T), false, none⟩)], _⟩) (fun i => i ≤ n) 0 (fun _ => Nat.le_refl _) (Nat.zero_le _) ?_ ?_
   ·(refine AS.Le.of (by first | decide | omega) ?_ ?_ <;> simp [LeT, LeH, tget, hget, AV.bd, AV.bd.bdL, u8, bd_cellsOf, bcells_bd, icells_bd])
    all_goals first | rfl | simp [le, be]
   ·intro i hi R hR
    have hb := fillLen n i T hi
    by_cases hlt : i < n
    ·obtain ⟨e1, e2⟩ := col_byte (l := l) (i := i) (by rw [hl.len]; omega) hv.symm
     have hm := hl.lo i
     have hc := hl.lo.carry i
     have g1 : ∀ _ : True, (icells .i64 l).getD i .u = .v (.i .i64 (l.getD i 0 : Nat)) := fun _ => icells_get (by rw [hl.len]; omega)
     have g2 : ∀ _ : True, IntKind.i64.wrap (((l.getD i 0 : Nat) : Int) + ((le (l.take i) / 256 ^ i : Nat) : Int)) = ((le (l.take i) / 256 ^ i + l.getD i 0 : Nat) : Int) := fun _ => by
      have hs : le (l.take i) / 256 ^ i + l.getD i 0 ≤ 65025 * (a.length + 1) + 65025 * (a.length + 1) := Nat.add_le_add hc hm
      rw [← Int.natCast_add, Nat.add_comm]
      generalize le (l.take i) / 256 ^ i + l.getD i 0 = z at hs ⊢
      rw [IntWalk.i64_in _ (by omega)]
     clear e1 e2 hm hc
     repeat' (first | simp only [go_sem, seval, l1, g1 trivial, g2 trivial, hb] | simp (disch := first | assumption | omega) only [bP, bW] | (first | apply pX | apply bX) <;> intro hc | refine ⟨oD, ?_⟩ | exact oD | fail)
     obtain ⟨e1, e2⟩ := col_byte (l := l) (i := i) (by rw [hl.len]; omega) hv.symm
     have hs : le (l.take (i + 1)) / 256 ^ (i + 1) ≤ 65025 * (a.length + 1) := hl.lo.carry (i + 1)
     have hw : IntKind.i64.wrap ((le (l.take (i + 1)) / 256 ^ (i + 1) : Nat) : Int) = ((le (l.take (i + 1)) / 256 ^ (i + 1) : Nat) : Int) := by
      generalize le (l.take (i + 1)) / 256 ^ (i + 1) = z at hs ⊢
      rw [IntWalk.i64_in _ (by omega)]
     refine hR (i + 1) (by omega) (by omega) _ ?_
     rw [e2, hw, show ((n : Int) - 1 - i).toNat = n - 1 - i by omega, bput (c := UInt8.ofNat (T / 256 ^ i)) (by omega) (by rw [wu8_nat, UInt8.toNat_ofNat', UInt8.toNat_ofNat']; exact congrArg _ (by omega)), fill_set hlt]
     (refine AS.Le.of (by first | decide | omega) ?_ ?_ <;> simp [LeT, LeH, tget, hget, AV.bd, AV.bd.bdL, u8, bd_cellsOf, bcells_bd, icells_bd])
     all_goals rfl
    ·obtain rfl : i = n := by omega
     have := rTrim_ok (be i T) (by rw [be_len]; omega)
     have hl' : (be i T).length = i := be_len _ _
     repeat' (first | simp only [go_sem, seval, hl', Nat.sub_self, List.replicate_zero] | (refine CR_bytes this rfl rfl hl'.symm ?_) | simp (disch := first | assumption | omega) only [bP, bW] | (first | apply pX | apply bX) <;> intro hc | refine ⟨oD, ?_⟩ | exact oD | fail)
     rw [trim_be hTl]
end Go.Proofs.YthbognfeadopjaaGreatDoor
