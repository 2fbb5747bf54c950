/-
  Part of the proof, part 31. Own work.
-/
import Derived.Test.YthbognfeadopjaaGreatDoorM30
set_option linter.all false
namespace Go.Proofs.YthbognfeadopjaaGreatDoor
open Go Go.Dom Go.Num
set_option maxRecDepth 100000
set_option maxHeartbeats 8000000
theorem rFormed_ok (a : Bytes) : EvP Tryz.prog 262 [.s a] (.b (validN a)) := by
 rw [validN_eq]
 refine eW Tryz.call262 Tryz.func262 ?_
 repeat' (first | simp only [go_sem, seval] | simp (disch := first | assumption | omega) only [bP, bW] | (first | apply pX | apply bX) <;> intro hc | refine ⟨oD, ?_⟩ | exact oD | fail)
 all_goals simp_all
 all_goals first | omega | (cases a <;> simp_all)
theorem num_take_mod {a : Bytes} {i : Nat} (h : i < a.length) : (num (a.take i) % 18446744073709551616 * 256 % 18446744073709551616 + (a.getD i 0).toNat) % 18446744073709551616 = num (a.take (i + 1)) % 18446744073709551616 := by
 rw [num_take_succ h]; omega
theorem rU_ok (a : Bytes) (la : a.length < 1099511627776) : EvP Tryz.prog 263 [.s a] (.tup [.i .u64 (num a % 18446744073709551616 : Nat), .b (decide (a.length ≤ 8))]) := by
 refine eW Tryz.call263 Tryz.func263 ?_
 repeat' (first | simp only [go_sem, seval] | simp (disch := first | assumption | omega) only [bP, bW] | (first | apply pX | apply bX) <;> intro hc | refine ⟨oD, ?_⟩ | exact oD | fail)
 refine loop_run (α := Nat) (fun i => a.length - i) (fun i => ⟨[(0, .v (.s a)), (4, .v (.i .u64 (num (a.take i) % 18446744073709551616 : Nat))), (5, .v (.i .i64 i))], [], _⟩) (fun i => i ≤ a.length) 0 (fun _ => Nat.le_refl _) (Nat.zero_le _) ?_ ?_
 ·(refine AS.Le.of (by first | decide | omega) ?_ ?_ <;> simp [LeT, LeH, tget, hget, AV.bd, AV.bd.bdL, u8, bd_cellsOf, bcells_bd, icells_bd])
  all_goals rfl
 ·intro i hi R hR
  by_cases hlt : i < a.length
  ·have h1 := num_take_mod hlt
   have hgo := hR (i + 1) (by omega) (by omega)
   rw [← h1] at hgo
   clear h1 hR
   obtain ⟨u, hu⟩ : ∃ u, u = num (a.take i) % 18446744073709551616 := ⟨_, rfl⟩
   have hul : u < 18446744073709551616 := by rw [hu]; exact Nat.mod_lt _ (by decide)
   rw [← hu] at hgo ⊢
   have hw1 : ∀ _ : True, IntKind.u64.wrap ((u : Int) * 256) = ((u * 256 % 18446744073709551616 : Nat) : Int) := fun _ => by rw [wu64]; omega
   have hw2 : ∀ x : Nat, IntKind.u64.wrap (((u * 256 % 18446744073709551616 : Nat) : Int) + (x : Int)) = (((u * 256 % 18446744073709551616 + x) % 18446744073709551616 : Nat) : Int) := fun x => by rw [wu64]; omega
   have hwb : ∀ c : UInt8, IntKind.u64.wrap ((c.toNat : Nat) : Int) = ((c.toNat : Nat) : Int) := fun c => IntWalk.u64_in _ (by have := c.toNat_lt; omega)
   repeat' (first | simp only [go_sem, seval, hw1 trivial, hw2, hwb] | simp (disch := first | assumption | omega) only [bP, bW] | (first | apply pX | apply bX) <;> intro hc | refine ⟨oD, ?_⟩ | exact oD | fail)
   refine hgo _ ?_
   exact lE
  ·obtain rfl : i = a.length := by omega
   rw [List.take_length]
   have hd : decide ((a.length : Int) ≤ 8) = decide (a.length ≤ 8) := by rw [Bool.eq_iff_iff]; simp only [decide_eq_true_eq]; omega
   repeat' (first | simp only [go_sem, seval, hd] | simp (disch := first | assumption | omega) only [bP, bW] | (first | apply pX | apply bX) <;> intro hc | refine ⟨oD, ?_⟩ | exact oD | fail)
theorem rAddMod_ok {a b m : Nat} (ha : a < m) (hb : b < m) (hm : m < 18446744073709551616) : EvP Tryz.prog 384 [.i .u64 a, .i .u64 b, .i .u64 m] (.i .u64 ((a + b) % m : Nat)) := by
 by_cases h : m ≤ a + b
 ·have e : (a + b) % m = a + b - m := by rw [Nat.mod_eq_sub_mod h, Nat.mod_eq_of_lt (by omega)]
  rw [e]
  refine eW Tryz.call384 Tryz.func384 ?_
  repeat' (first | simp only [go_sem, seval] | simp (disch := first | assumption | omega) only [bP, bW] | (first | apply pX | apply bX) <;> intro hc | refine ⟨oD, ?_⟩ | exact oD | fail)
  all_goals first | rfl | (congr 1; omega)
 ·have e : (a + b) % m = a + b := Nat.mod_eq_of_lt (by omega)
  rw [e]
  refine eW Tryz.call384 Tryz.func384 ?_
  repeat' (first | simp only [go_sem, seval] | simp (disch := first | assumption | omega) only [bP, bW] | (first | apply pX | apply bX) <;> intro hc | refine ⟨oD, ?_⟩ | exact oD | fail)
  all_goals first | rfl | (congr 1; omega)
theorem rMulMod_ok {a b m : Nat} (ha : a < m) (hb : b < m) (hm : m < 18446744073709551616) : EvP Tryz.prog 361 [.i .u64 a, .i .u64 b, .i .u64 m] (.i .u64 (a * b % m : Nat)) := by
 by_cases h32 : m < 4294967296
 ·have hlt : a * b < 4294967296 * 4294967296 := Nat.mul_lt_mul'' (by omega) (by omega)
  have hw : ∀ _ : True, IntKind.u64.wrap ((a : Int) * (b : Int)) = ((a * b : Nat) : Int) := fun _ => by rw [← Int.natCast_mul, IntWalk.u64_in _ (by omega)]
  clear hlt
  refine eW Tryz.call361 Tryz.func361 ?_
  repeat' (first | simp only [go_sem, seval, hw trivial] | simp (disch := first | assumption | omega) only [bP, bW] | (first | apply pX | apply bX) <;> intro hc | refine ⟨oD, ?_⟩ | exact oD | fail)
  all_goals skip
 ·refine eW Tryz.call361 Tryz.func361 ?_
  repeat' (first | simp only [go_sem, seval] | simp (disch := first | assumption | omega) only [bP, bW] | (first | apply pX | apply bX) <;> intro hc | refine ⟨oD, ?_⟩ | exact oD | fail)
  refine loop_run (α := Nat × Nat × Nat) (fun s => s.2.2) (fun s => ⟨[(0, U s.2.1), (1, U s.2.2), (2, U m), (7, U s.1)], [], _⟩) (fun s => s.1 < m ∧ s.2.1 < m ∧ s.2.2 < 18446744073709551616 ∧ (s.1 + s.2.1 * s.2.2) % m = a * b % m) (0, a, b) (fun _ => Nat.le_refl _) ⟨by show 0 < m; omega, ha, by show b < _; omega, by simp⟩ ?_ ?_
  ·exact lE
  ·rintro ⟨u, x, y⟩ ⟨hu, hx, hy, he⟩ R hR
   simp only at hu hx hy he
   by_cases h0 : y = 0
   ·subst h0
    rw [Nat.mul_zero, Nat.add_zero, Nat.mod_eq_of_lt hu] at he
    repeat' (first | simp only [go_sem, seval] | simp (disch := first | assumption | omega) only [bP, bW] | (first | apply pX | apply bX) <;> intro hc | refine ⟨oD, ?_⟩ | exact oD | fail)
    rw [he]
   ·have a1 := rAddMod_ok hu hx hm
    have a2 := rAddMod_ok hx hx hm
    have hm1 : (u + x) % m < m := Nat.mod_lt _ (by omega)
    have hm2 : (x + x) % m < m := Nat.mod_lt _ (by omega)
    have hy2 : ((y : Int)).tmod 2 = ((y % 2 : Nat) : Int) := rfl
    have hyd : y / 2 ≤ y := Nat.div_le_self _ _
    have hxx : ∀ k, (x + x) % m * k % m = x * (2 * k) % m := fun k => by rw [Nat.mod_mul_mod, ← Nat.two_mul, Nat.mul_comm 2 x, Nat.mul_assoc]
    rcases (show y % 2 = 1 ∨ y % 2 = 0 by omega) with g | g
    ·have he2 : ((u + x) % m + (x + x) % m * (y / 2)) % m = a * b % m := by
      rw [← he, Nat.add_mod, hxx, Nat.mod_mod, ← Nat.add_mod]
      have : x * y = x + x * (2 * (y / 2)) := by
       have : y = 1 + 2 * (y / 2) := by omega
       conv => lhs; rw [this, Nat.mul_add, Nat.mul_one]
      rw [this]; congr 1; omega
     have hgo := hR ((u + x) % m, (x + x) % m, y / 2) ⟨hm1, hm2, by show y / 2 < _; omega, he2⟩ (by show y / 2 < y; omega)
     clear he he2 hR hxx
     repeat' (first | simp only [go_sem, seval, hy2, g] | refine cP a1 ?_ | refine cP a2 ?_ | simp (disch := first | assumption | omega) only [bP, bW] | (first | apply pX | apply bX) <;> intro hc | refine ⟨oD, ?_⟩ | exact oD | fail)
     refine hgo _ ?_
     exact lE
    ·have he2 : (u + (x + x) % m * (y / 2)) % m = a * b % m := by
      rw [← he, Nat.add_mod, hxx, ← Nat.add_mod]
      have : x * y = x * (2 * (y / 2)) := by congr 1; omega
      rw [this]
     have hgo := hR (u, (x + x) % m, y / 2) ⟨hu, hm2, by show y / 2 < _; omega, he2⟩ (by show y / 2 < y; omega)
     clear he he2 hR hxx
     repeat' (first | simp only [go_sem, seval, hy2, g] | refine cP a1 ?_ | refine cP a2 ?_ | simp (disch := first | assumption | omega) only [bP, bW] | (first | apply pX | apply bX) <;> intro hc | refine ⟨oD, ?_⟩ | exact oD | fail)
     refine hgo _ ?_
     exact lE
theorem rExpMod_ok {a e m : Nat} (ha : a < m) (he : e < 18446744073709551616) (hm : m < 18446744073709551616) : EvP Tryz.prog 360 [.i .u64 a, .i .u64 e, .i .u64 m] (.i .u64 (a ^ e % m : Nat)) := by
 have h0 : 0 < m := by omega
 have e1 : (1 : Int).tmod (m : Int) = ((1 % m : Nat) : Int) := rfl
 refine eW Tryz.call360 Tryz.func360 ?_
 repeat' (first | simp only [go_sem, seval, e1] | simp (disch := first | assumption | omega) only [bP, bW] | (first | apply pX | apply bX) <;> intro hc | refine ⟨oD, ?_⟩ | exact oD | fail)
 refine loop_run (α := Nat × Nat × Nat) (fun s => s.2.2) (fun s => ⟨[(0, U s.2.1), (1, U s.2.2), (2, U m), (7, U s.1)], [], _⟩) (fun s => s.1 < m ∧ s.2.1 < m ∧ s.2.2 < 18446744073709551616 ∧ s.1 * s.2.1 ^ s.2.2 % m = a ^ e % m) (1 % m, a, e) (fun _ => Nat.le_refl _) ⟨Nat.mod_lt _ h0, ha, he, by show 1 % m * a ^ e % m = _; rw [Nat.mod_mul_mod, Nat.one_mul]⟩ ?_ ?_
 ·(refine AS.Le.of (by first | decide | omega) ?_ ?_ <;> simp [LeT, LeH, tget, hget, AV.bd, AV.bd.bdL, u8, bd_cellsOf, bcells_bd, icells_bd])
  all_goals first | rfl | skip
 ·rintro ⟨u, x, y⟩ ⟨hu, hx, hy, hq⟩ R hR
  simp only at hu hx hy hq
  by_cases h1 : y = 0
  ·subst h1
   rw [Nat.pow_zero, Nat.mul_one, Nat.mod_eq_of_lt hu] at hq
   repeat' (first | simp only [go_sem, seval] | simp (disch := first | assumption | omega) only [bP, bW] | (first | apply pX | apply bX) <;> intro hc | refine ⟨oD, ?_⟩ | exact oD | fail)
   rw [hq]
  ·have a1 := rMulMod_ok hu hx hm
   have a2 := rMulMod_ok hx hx hm
   have hm1 : u * x % m < m := Nat.mod_lt _ h0
   have hm2 : x * x % m < m := Nat.mod_lt _ h0
   have hy2 : ((y : Int)).tmod 2 = ((y % 2 : Nat) : Int) := rfl
   have hyd : y / 2 ≤ y := Nat.div_le_self _ _
   rcases (show y % 2 = 1 ∨ y % 2 = 0 by omega) with g | g
   ·have hgo := hR (u * x % m, x * x % m, y / 2) ⟨hm1, hm2, by show y / 2 < _; omega, by show u * x % m * (x * x % m) ^ (y / 2) % m = _; rw [powOdd g, hq]⟩ (by show y / 2 < y; omega)
    clear hq hR
    repeat' (first | simp only [go_sem, seval, hy2, g] | refine cP a1 ?_ | refine cP a2 ?_ | simp (disch := first | assumption | omega) only [bP, bW] | (first | apply pX | apply bX) <;> intro hc | refine ⟨oD, ?_⟩ | exact oD | fail)
    refine hgo _ ?_
    exact lE
   ·have hgo := hR (u, x * x % m, y / 2) ⟨hu, hm2, by show y / 2 < _; omega, by show u * (x * x % m) ^ (y / 2) % m = _; rw [powEven g, hq]⟩ (by show y / 2 < y; omega)
    clear hq hR
    repeat' (first | simp only [go_sem, seval, hy2, g] | refine cP a1 ?_ | refine cP a2 ?_ | simp (disch := first | assumption | omega) only [bP, bW] | (first | apply pX | apply bX) <;> intro hc | refine ⟨oD, ?_⟩ | exact oD | fail)
    refine hgo _ ?_
    exact lE
def sqL (n : Nat) : Nat → Nat → Bool
 | 0, _ => false
 | r + 1, x => x == n - 1 || sqL n r (x * x % n)
theorem sqL_eq (n : Nat) : ∀ r x, sqL n (r + 1) x = (x == n - 1 || sqs r x n)
 | 0, x => rfl
 | r + 1, x => by rw [sqL, sqL_eq n r]; rfl
theorem rStrong_ok {n a : Nat} (hn : n < 18446744073709551616) (h3 : 3 ≤ n) (hodd : n % 2 = 1) (ha : a < n) (ha0 : a ≠ 0) : EvP Tryz.prog 323 [.i .u64 n, .i .u64 a] (.b (strong n (tzF 64 (n - 1)) ((n - 1) / 2 ^ tzF 64 (n - 1)) a)) := by
 have e1 : ∀ _ : True, ((n : Int) - 1) = ((n - 1 : Nat) : Int) := fun _ => by omega
 have e2 : (n : Int).tmod 2 = ((n % 2 : Nat) : Int) := rfl
 obtain ⟨T, hT⟩ : ∃ T, T = tzF 64 (n - 1) := ⟨_, rfl⟩
 rw [← hT]
 have hT0 : T ≠ 0 := by
  rw [hT]; unfold tzF; rw [if_neg (by omega)]; omega
 refine eW Tryz.call323 Tryz.func323 ?_
 repeat' (first | simp only [go_sem, seval, e1 trivial, e2, hodd] | simp (disch := first | assumption | omega) only [bP, bW] | (first | apply pX | apply bX) <;> intro hc | refine ⟨oD, ?_⟩ | exact oD | fail)
 refine loop_run (α := Nat × Nat) (fun s => s.1) (fun s => ⟨[(0, U n), (1, U a), (5, U s.1), (6, E' s.2)], [], _⟩) (fun s => 0 < s.1 ∧ s.1 < 18446744073709551616 ∧ s.2 ≤ 64 ∧ s.1 < 2 ^ (64 - s.2) ∧ s.1 = (n - 1) / 2 ^ s.2 ∧ tzF (64 - s.2) s.1 + s.2 = T) (n - 1, 0) (fun _ => Nat.le_refl _) ⟨by show 0 < n - 1; omega, by show n - 1 < _; omega, by show 0 ≤ 64; omega, by show n - 1 < 2 ^ 64; omega, by show n - 1 = _; rw [Nat.pow_zero, Nat.div_one], by rw [hT]; rfl⟩ ?_ ?_
 ·exact lE
 ·rintro ⟨d, s⟩ ⟨hd0, hd1, hs, hds, hde, ht⟩ R hR
  simp only at hd0 hd1 hs hds hde ht
  have ed : (d : Int).tmod 2 = ((d % 2 : Nat) : Int) := rfl
  have hs64 : s < 64 := by
   rcases Nat.lt_or_ge s 64 with g | g
   ·exact g
   ·obtain rfl : s = 64 := by omega
    simp at hds; omega
  obtain ⟨f, hf⟩ : ∃ f, 64 - s = f + 1 := ⟨63 - s, by omega⟩
  rw [hf] at hds ht
  unfold tzF at ht
  by_cases hev : d % 2 = 0
  ·rw [if_neg (by omega)] at ht
   have hdl : d / 2 ≤ d := Nat.div_le_self _ _
   have hgo := hR (d / 2, s + 1) ⟨by show 0 < d / 2; omega, by show d / 2 < _; omega, by show s + 1 ≤ 64; omega, by
    show d / 2 < 2 ^ (64 - (s + 1)); rw [show 64 - (s + 1) = f by omega]; rw [Nat.pow_succ] at hds; omega, by
    show d / 2 = (n - 1) / 2 ^ (s + 1); rw [Nat.pow_succ, ← Nat.div_div_eq_div_mul, ← hde], by
    show tzF (64 - (s + 1)) (d / 2) + (s + 1) = T; rw [show 64 - (s + 1) = f by omega]; omega⟩ (by show d / 2 < d; omega)
   clear hR ht
   repeat' (first | simp only [go_sem, seval, ed, hev] | simp (disch := first | assumption | omega) only [bP, bW] | (first | apply pX | apply bX) <;> intro hc | refine ⟨oD, ?_⟩ | exact oD | fail)
   refine hgo _ ?_
   exact lE
  ·have hev : d % 2 = 1 := by omega
   rw [if_pos hev, Nat.zero_add] at ht
   subst ht
   rw [← hde]
   have hx := rExpMod_ok (a := a) (e := d) (m := n) ha hd1 hn
   have es : strong n s d a = (a ^ d % n == 1 || sqL n s (a ^ d % n)) := by
    unfold strong
    rw [Nat.mod_eq_of_lt ha]
    obtain ⟨r, hr⟩ : ∃ r, s = r + 1 := ⟨s - 1, by omega⟩
    rw [hr, sqL_eq, Nat.add_sub_cancel, Bool.or_assoc]
   rw [es]
   obtain ⟨x, hxx⟩ : ∃ x, x = a ^ d % n := ⟨_, rfl⟩
   have hxl : x < n := by rw [hxx]; exact Nat.mod_lt _ (by omega)
   rw [← hxx] at hx ⊢
   clear hR es hde hxx
   by_cases hx1 : x = 1
   ·subst hx1
    repeat' (first | simp only [go_sem, seval, ed, hev] | refine cP hx ?_ | simp (disch := first | assumption | omega) only [bP, bW] | (first | apply pX | apply bX) <;> intro hc | refine ⟨oD, ?_⟩ | exact oD | fail)
    all_goals skip
   have hb1 : (x == 1) = false := by simpa using hx1
   have hb2 : ((x : Int) == 1) = false := by rw [beq_eq_false_iff_ne]; omega
   rw [hb1, Bool.false_or]
   repeat' (first | simp only [go_sem, seval, ed, hev, hb2] | refine cP hx ?_ | simp (disch := first | assumption | omega) only [bP, bW] | (first | apply pX | apply bX) <;> intro hc | refine ⟨oD, ?_⟩ | exact oD | fail)
   refine loop_run (α := Nat × Nat) (fun s' => s - s'.1) (fun s' => ⟨[(0, U n), (6, E' s), (7, U s'.2), (8, E' s'.1)], [], _⟩) (fun s' => s'.1 ≤ s ∧ s'.2 < n ∧ sqL n (s - s'.1) s'.2 = sqL n s x) (0, x) (fun _ => Nat.le_refl _) ⟨Nat.zero_le _, hxl, rfl⟩ ?_ ?_
   ·exact lE
   ·rintro ⟨i, z⟩ ⟨hi, hz, hq⟩ R hR
    simp only at hi hz hq
    rw [← hq]
    by_cases hlt : i < s
    ·have hmm := rMulMod_ok hz hz hn
     have hzz : z * z % n < n := Nat.mod_lt _ (by omega)
     obtain ⟨r, hr⟩ : ∃ r, s - i = r + 1 := ⟨s - i - 1, by omega⟩
     have hgo := hR (i + 1, z * z % n)
     rw [hr] at hq ⊢
     simp only [sqL] at hq ⊢
     by_cases hzn : z = n - 1
     ·have hb : ∀ _ : True, ((z : Int) == ((n - 1 : Nat) : Int)) = true := fun _ => by rw [hzn]; simp
      have hb' : (z == n - 1) = true := by simpa using hzn
      rw [hb', Bool.true_or]
      clear hq hgo hR
      repeat' (first | simp only [go_sem, seval, e1 trivial, hb trivial] | simp (disch := first | assumption | omega) only [bP, bW] | (first | apply pX | apply bX) <;> intro hc | refine ⟨oD, ?_⟩ | exact oD | fail)
     ·have hb : ∀ _ : True, ((z : Int) == ((n - 1 : Nat) : Int)) = false := fun _ => by rw [beq_eq_false_iff_ne]; omega
      have hb' : (z == n - 1) = false := by simpa using hzn
      rw [hb', Bool.false_or] at hq ⊢
      rw [← hq] at hgo
      have hgo := hgo ⟨by show i + 1 ≤ s; omega, hzz, by show sqL n (s - (i + 1)) _ = _; rw [show s - (i + 1) = r by omega]⟩ (by show s - (i + 1) < s - i; omega)
      clear hq hR
      repeat' (first | simp only [go_sem, seval, e1 trivial, hb trivial] | refine cP hmm ?_ | simp (disch := first | assumption | omega) only [bP, bW] | (first | apply pX | apply bX) <;> intro hc | refine ⟨oD, ?_⟩ | exact oD | fail)
      refine hgo _ ?_
      exact lE
    ·obtain rfl : i = s := by omega
     rw [Nat.sub_self]
     repeat' (first | simp only [go_sem, seval] | simp (disch := first | assumption | omega) only [bP, bW] | (first | apply pX | apply bX) <;> intro hc | refine ⟨oD, ?_⟩ | exact oD | fail)
     all_goals rfl
theorem rBGet {i : Nat} (h : i < 12) : (List.map (fun n : Nat => PV.i .u64 (n : Int)) bases12).getD i .fn0 = .i .u64 (bases12.getD i 0 : Nat) := by
 have h2 : i < bases12.length := h
 simp [List.getD_eq_getElem?_getD, h2]
theorem rIsU_ok {n : Nat} (hn : n < 18446744073709551616) : EvP Tryz.prog 264 [.i .u64 n] (.b (isMR n)) := by
 by_cases h2 : n < 2
 ·have e : isMR n = false := by simp [isMR, h2]
  rw [e]
  refine eW Tryz.call264 Tryz.func264 ?_
  repeat' (first | simp only [go_sem, seval] | simp (disch := first | assumption | omega) only [bP, bW] | (first | apply pX | apply bX) <;> intro hc | refine ⟨oD, ?_⟩ | exact oD | fail)
 obtain ⟨B, hB⟩ : ∃ B, B = List.map (fun n : Nat => PV.i .u64 (n : Int)) bases12 := ⟨_, rfl⟩
 have hBl : B.length = 12 := by rw [hB]; rfl
 have hBe : ∀ _ : True, [PV.i .u64 2, .i .u64 3, .i .u64 5, .i .u64 7, .i .u64 11, .i .u64 13, .i .u64 17, .i .u64 19, .i .u64 23, .i .u64 29, .i .u64 31, .i .u64 37] = B := fun _ => by rw [hB]; rfl
 have hBc : ∀ x ∈ B, x.cells.length = 1 := by
  rw [hB]; intro x hx; obtain ⟨c, -, rfl⟩ := List.mem_map.1 hx; rfl
 have hBg : ∀ {i : Nat}, i < 12 → B.getD i .fn0 = .i .u64 (bases12.getD i 0 : Nat) := fun h => by rw [hB]; exact rBGet h
 clear hB
 refine eW Tryz.call264 Tryz.func264 ?_
 repeat' (first | simp only [go_sem, seval, hBe trivial] | simp (disch := first | assumption | omega) only [bP, bW] | (first | apply pX | apply bX) <;> intro hc | refine ⟨oD, ?_⟩ | exact oD | fail)
 refine loop_run (α := Nat) (fun i => 12 - i) (fun i => ⟨[(0, U n), (3, .fs B), (4, E' i)], [], _⟩) (fun i => i ≤ 12 ∧ bases12.find? (fun p => n % p == 0) = (bases12.drop i).find? (fun p => n % p == 0)) 0 (fun _ => Nat.le_refl _) ⟨by omega, rfl⟩ ?_ ?_
 ·exact lE
 ·rintro i ⟨hi, hf⟩ R hR
  by_cases hlt : i < 12
  ·have g1 := hBg hlt
   obtain ⟨q0, q1⟩ := bPos hlt
   rw [bDrop hlt] at hf
   have hmc : ∀ q : Nat, (n : Int).tmod (q : Int) = ((n % q : Nat) : Int) := fun q => rfl
   generalize bases12.getD i 0 = q at *
   by_cases hq : n = q
   ·have hz : (n % q == 0) = true := by rw [hq]; simp
    rw [List.find?_cons, hz] at hf
    have e : isMR n = true := by
     unfold isMR
     rw [if_neg h2, hf]; simpa using hq
    rw [e]
    repeat' (first | simp only [go_sem, seval, hBl, g1, hmc] | simp (disch := first | assumption | omega) only [bP, bW] | (first | apply pX | apply bX) <;> intro hc | refine ⟨oD, ?_⟩ | exact oD | fail)
   ·by_cases hz0 : n % q = 0
    ·have hz : (n % q == 0) = true := by simpa using hz0
     rw [List.find?_cons, hz] at hf
     have e : isMR n = false := by
      unfold isMR
      rw [if_neg h2, hf]; simpa using hq
     rw [e]
     repeat' (first | simp only [go_sem, seval, hBl, g1, hmc, hz0] | simp (disch := first | assumption | omega) only [bP, bW] | (first | apply pX | apply bX) <;> intro hc | refine ⟨oD, ?_⟩ | exact oD | fail)
    ·have hz : (n % q == 0) = false := by simpa using hz0
     rw [List.find?_cons, hz] at hf
     have hgo := hR (i + 1) ⟨by omega, hf⟩ (by omega)
     repeat' (first | simp only [go_sem, seval, hBl, g1, hmc] | simp (disch := first | assumption | omega) only [bP, bW] | (first | apply pX | apply bX) <;> intro hc | refine ⟨oD, ?_⟩ | exact oD | fail)
     refine hgo _ ?_
     exact lE
  ·obtain rfl : i = 12 := by omega
   have hf : bases12.find? (fun p => n % p == 0) = none := hf
   have hnd : ∀ q ∈ bases12, n % q ≠ 0 := fun q hq => by simpa using List.find?_eq_none.1 hf q hq
   have key : isMR n = bases12.all (strong n (tzF 64 (n - 1)) ((n - 1) / 2 ^ tzF 64 (n - 1))) := by
    unfold isMR
    rw [if_neg h2, hf]
   have h37 : 37 < n := by
    rcases Nat.lt_or_ge 37 n with g | g
    ·exact g
    ·exfalso
     have : ∀ k : Fin 38, 2 ≤ k.val → ∃ q ∈ bases12, k.val % q = 0 := by decide
     obtain ⟨q, hq1, hq2⟩ := this ⟨n, by omega⟩ (by show 2 ≤ n; omega)
     exact hnd q hq1 hq2
   have hodd : n % 2 = 1 := by have := hnd 2 (by decide); omega
   rw [key]
   have hst := fun a (h1 : a < 38) (h0 : a ≠ 0) => rStrong_ok (a := a) hn (by omega) hodd (by omega) h0
   clear key hf hnd hR
   generalize strong n (tzF 64 (n - 1)) ((n - 1) / 2 ^ tzF 64 (n - 1)) = st at *
   repeat' (first | simp only [go_sem, seval, hBl] | simp (disch := first | assumption | omega) only [bP, bW] | (first | apply pX | apply bX) <;> intro hc | refine ⟨oD, ?_⟩ | exact oD | fail)
   refine loop_run (α := Nat) (fun i => 12 - i) (fun i => ⟨[(0, U n), (3, .fs B), (5, E' i)], [], _⟩) (fun i => i ≤ 12 ∧ bases12.all st = (bases12.drop i).all st) 0 (fun _ => Nat.le_refl _) ⟨by omega, rfl⟩ ?_ ?_
   ·exact lE
   ·rintro i ⟨hi, hf⟩ R hR
    by_cases hlt : i < 12
    ·have g1 := hBg hlt
     obtain ⟨q0, q1⟩ := bPos hlt
     rw [bDrop hlt, List.all_cons] at hf
     have hR1 := hR (i + 1)
     generalize bases12.getD i 0 = q at *
     have hs := hst q q1 (by omega)
     cases hsq : st q
     ·rw [hsq] at hs hf
      rw [hf, Bool.false_and]
      repeat' (first | simp only [go_sem, seval, hBl, g1] | refine cP hs ?_ | simp (disch := first | assumption | omega) only [bP, bW] | (first | apply pX | apply bX) <;> intro hc | refine ⟨oD, ?_⟩ | exact oD | fail)
     ·rw [hsq] at hs hf
      rw [Bool.true_and] at hf
      have hgo := hR1 ⟨by omega, hf⟩ (by omega)
      repeat' (first | simp only [go_sem, seval, hBl, g1] | refine cP hs ?_ | simp (disch := first | assumption | omega) only [bP, bW] | (first | apply pX | apply bX) <;> intro hc | refine ⟨oD, ?_⟩ | exact oD | fail)
      refine hgo _ ?_
      exact lE
    ·obtain rfl : i = 12 := by omega
     have e : bases12.all st = true := hf
     rw [e]
     repeat' (first | simp only [go_sem, seval, hBl] | simp (disch := first | assumption | omega) only [bP, bW] | (first | apply pX | apply bX) <;> intro hc | refine ⟨oD, ?_⟩ | exact oD | fail)
theorem rIs_ok (a : Bytes) (la : a.length < 1099511627776) : EvP Tryz.prog 185 [.s a] (.tup [.b (validN a && decide (a.length ≤ 8) && isMR (num a)), E (if validN a then (if a.length ≤ 8 then 0 else 5) else 3)]) := by
 have hf := rFormed_ok a
 have hu := rU_ok a la
 by_cases hv : validN a = true
 ·rw [hv] at hf ⊢
  by_cases h8 : a.length ≤ 8
  ·have hn := num8 h8
   rw [decide_eq_true h8, Nat.mod_eq_of_lt hn] at hu
   have hi := rIsU_ok hn
   rw [decide_eq_true h8, if_pos rfl, if_pos h8]
   generalize isMR (num a) = b at *
   refine eW Tryz.call185 Tryz.func185 ?_
   repeat' (first | simp only [go_sem, seval] | refine cP hf ?_ | refine cP hu ?_ | refine cP hi ?_ | simp (disch := first | assumption | omega) only [bP, bW] | (first | apply pX | apply bX) <;> intro hc | refine ⟨oD, ?_⟩ | exact oD | fail)
   all_goals simp_all
  ·rw [decide_eq_false h8] at hu ⊢
   rw [if_pos rfl, if_neg h8]
   refine eW Tryz.call185 Tryz.func185 ?_
   repeat' (first | simp only [go_sem, seval] | refine cP hf ?_ | refine cP hu ?_ | simp (disch := first | assumption | omega) only [bP, bW] | (first | apply pX | apply bX) <;> intro hc | refine ⟨oD, ?_⟩ | exact oD | fail)
   all_goals simp_all
 ·have hv : validN a = false := by simpa using hv
  rw [hv] at hf ⊢
  refine eW Tryz.call185 Tryz.func185 ?_
  repeat' (first | simp only [go_sem, seval] | refine cP hf ?_ | simp (disch := first | assumption | omega) only [bP, bW] | (first | apply pX | apply bX) <;> intro hc | refine ⟨oD, ?_⟩ | exact oD | fail)
  all_goals simp_all
end Go.Proofs.YthbognfeadopjaaGreatDoor
