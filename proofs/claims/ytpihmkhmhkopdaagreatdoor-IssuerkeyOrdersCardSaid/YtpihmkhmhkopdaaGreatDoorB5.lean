/-
  COLUMNS: products of numbers by digits: plain. Own work; no program in sight.
-/
import Derived.Test.YtpihmkhmhkopdaaGreatDoorB2
set_option linter.all false
namespace Go.Dom
/-- The number of little-endian columns. -/
def le : List Nat → Nat
  | [] => 0
  | x :: r => x + 256 * le r
theorem le_set : ∀ (l : List Nat) (p v : Nat), p < l.length → le (l.set p (l.getD p 0 + v)) = le l + v * 256 ^ p
  | x :: r, 0, v, _ => by simp [le]; omega
  | x :: r, p + 1, v, h => by
    have := le_set r p v (by simpa using h)
    simp only [List.set_cons_succ, le, List.getD_cons_succ, this, Nat.pow_succ, Nat.mul_add]
    have e : 256 * (v * 256 ^ p) = v * (256 ^ p * 256) := by rw [Nat.mul_comm, Nat.mul_assoc]
    omega
theorem le_rep (n : Nat) : le (List.replicate n 0) = 0 := by induction n <;> simp_all [List.replicate_succ, le]
theorem le_split : ∀ (l : List Nat) (i : Nat), le l = le (l.take i) + 256 ^ i * le (l.drop i)
  | [], i => by simp [le]
  | x :: r, 0 => by simp [le]
  | x :: r, i + 1 => by
    have := le_split r i
    simp only [List.take_succ_cons, List.drop_succ_cons, le, Nat.pow_succ]
    rw [this, Nat.mul_add, ← Nat.mul_assoc, Nat.mul_comm 256 (256 ^ i)]; omega
theorem le_take_succ {l : List Nat} {i : Nat} (h : i < l.length) : le (l.take (i + 1)) = le (l.take i) + l.getD i 0 * 256 ^ i := by
  have h1 := le_split (l.take (i + 1)) i
  rw [List.take_take, Nat.min_eq_left (by omega)] at h1
  rw [h1]
  congr 1
  have : (l.take (i + 1)).drop i = [l.getD i 0] := by
    rw [List.drop_take, show i + 1 - i = 1 by omega, List.getD_eq_getElem?_getD, List.getElem?_eq_getElem h]
    rw [List.take_one, List.head?_drop, List.getElem?_eq_getElem h]; rfl
  rw [this]; simp [le, Nat.mul_comm]
/-- One column. -/
theorem col_byte {l : List Nat} {i T : Nat} (h : i < l.length) (hT : T = le l) : (le (l.take i) / 256 ^ i + l.getD i 0) % 256 = T / 256 ^ i % 256 ∧ (le (l.take i) / 256 ^ i + l.getD i 0) / 256 = le (l.take (i + 1)) / 256 ^ (i + 1) := by
  have h1 := le_take_succ h
  have h2 := le_split l (i + 1)
  have hp := Nat.pow_pos (n := i) (show 0 < 256 by decide)
  have e1 : le (l.take (i + 1)) / 256 ^ i = le (l.take i) / 256 ^ i + l.getD i 0 := by rw [h1, Nat.add_mul_div_right _ _ hp]
  rw [← e1]
  constructor
  · rw [hT, h2, Nat.pow_succ, Nat.mul_assoc, Nat.add_mul_div_left _ _ hp]; omega
  · rw [Nat.pow_succ, Nat.div_div_eq_div_mul]
/-- All columns are at most m. -/
def Most (m : Nat) (l : List Nat) : Prop := ∀ i, l.getD i 0 ≤ m
theorem Most.rep (n m : Nat) : Most m (List.replicate n 0) := fun i => by
  rw [List.getD_eq_getElem?_getD]
  by_cases h : i < n <;> simp [h]
theorem Most.le {m : Nat} {l : List Nat} (h : Most m l) (i : Nat) : Dom.le (l.take i) ≤ m * 256 ^ i := by
  induction i with
  | zero => simp [Dom.le]
  | succ i ih =>
    by_cases hi : i < l.length
    · rw [le_take_succ hi, Nat.pow_succ]
      have := Nat.mul_le_mul_right (256 ^ i) (h i)
      have e : m * (256 ^ i * 256) = m * 256 ^ i * 256 := by rw [Nat.mul_assoc]
      omega
    · rw [List.take_of_length_le (by omega)] at ih ⊢
      exact Nat.le_trans ih (Nat.mul_le_mul_left _ (Nat.pow_le_pow_right (by decide) (by omega)))
theorem Most.carry {m : Nat} {l : List Nat} (h : Most m l) (i : Nat) : Dom.le (l.take i) / 256 ^ i ≤ m := by
  have := h.le i
  exact Nat.div_le_of_le_mul (by rw [Nat.mul_comm]; exact this)
/-- Within a row of products the columns from p on have not been touched. -/
structure Cols (a b i k : Nat) (l : List Nat) : Prop where
  len : l.length = 256
  v : le l = a % 256 ^ i * b + a / 256 ^ i % 256 * (b % 256 ^ k) * 256 ^ i
  lo : Most (65025 * (i + 1)) l
  hi : ∀ j, i + k ≤ j → l.getD j 0 ≤ 65025 * i
theorem Cols.start (a b : Nat) : Cols a b 0 0 (List.replicate 256 0) := ⟨List.length_replicate, by rw [le_rep]; simp [Nat.mod_one], .rep _ _, fun j _ => Most.rep 256 0 j⟩
theorem Cols.step {a b i k : Nat} {l : List Nat} (h : Cols a b i k l) (hp : i + k < 256) : Cols a b i (k + 1) (l.set (i + k) (l.getD (i + k) 0 + a / 256 ^ i % 256 * (b / 256 ^ k % 256))) := by
  have hv : a / 256 ^ i % 256 * (b / 256 ^ k % 256) ≤ 65025 := Nat.mul_le_mul (by omega : a / 256 ^ i % 256 ≤ 255) (by omega : b / 256 ^ k % 256 ≤ 255)
  have hh := h.hi (i + k) (Nat.le_refl _)
  refine ⟨by simp [h.len], ?_, fun j => ?_, fun j hj => ?_⟩
  · rw [le_set _ _ _ (by rw [h.len]; exact hp), h.v, Nat.add_assoc]
    congr 1
    have e := Nat.mod_mul (x := b) (a := 256 ^ k) (b := 256)
    rw [show 256 ^ (k + 1) = 256 ^ k * 256 from Nat.pow_succ .., e, Nat.pow_add]
    generalize a / 256 ^ i % 256 = x
    generalize b / 256 ^ k % 256 = y
    generalize b % 256 ^ k = z
    rw [Nat.mul_add, Nat.add_mul, Nat.mul_assoc x y, Nat.mul_assoc x (256 ^ k * y), Nat.mul_comm (256 ^ i) (256 ^ k), ← Nat.mul_assoc y, Nat.mul_comm y (256 ^ k)]
  · rw [List.getD_eq_getElem?_getD, List.getElem?_set]
    split
    · split
      · simp only [Option.getD_some]; omega
      · simp
    · have := h.lo j; rw [List.getD_eq_getElem?_getD] at this; exact this
  · rw [List.getD_eq_getElem?_getD, List.getElem?_set_ne (by omega), ← List.getD_eq_getElem?_getD]
    exact h.hi j (by omega)
theorem Cols.row {a b i k : Nat} {l : List Nat} (h : Cols a b i k l) (hk : b < 256 ^ k) : Cols a b (i + 1) 0 l := by
  refine ⟨h.len, ?_, fun j => by have := h.lo j; omega, fun j _ => by have := h.lo j; omega⟩
  rw [h.v, Nat.mod_eq_of_lt hk]
  have e := Nat.mod_mul (x := a) (a := 256 ^ i) (b := 256)
  rw [show 256 ^ (i + 1) = 256 ^ i * 256 from Nat.pow_succ .., e, Nat.add_mul]
  simp only [Nat.pow_zero, Nat.mod_one, Nat.mul_zero, Nat.zero_mul, Nat.add_zero]
  congr 1
  rw [Nat.mul_comm (256 ^ i), Nat.mul_assoc, Nat.mul_assoc, Nat.mul_comm b]
end Go.Dom
