/-
  SUMS, DIFFERENCES AND PRODUCTS DIGIT BY DIGIT, plain. Own work; no program in sight.
-/
import Derived.Test.YtpihmkhmhkopdaaGreatDoorB1
set_option linter.all false
namespace Go.Dom

theorem mod256 (a p : Nat) : a % (p * 256) = a % p + p * (a / p % 256) := Nat.mod_mul
theorem divmod256 (x p : Nat) : x % (p * 256) / p = x / p % 256 := Nat.mod_mul_right_div_self x p 256
theorem ofNat_mod {x y : Nat} (h : x % 256 = y % 256) : UInt8.ofNat x = UInt8.ofNat y := by
  apply UInt8.toNat_inj.1; simpa using h
/-- The carry of a sum of digits. -/
def carry (a b p : Nat) : Nat := (a % p + b % p) / p
theorem carry_le (a b : Nat) {p : Nat} (hp : 0 < p) : carry a b p ≤ 1 := by
  unfold carry
  have h1 := Nat.mod_lt a hp
  have h2 := Nat.mod_lt b hp
  have : (a % p + b % p) / p < 2 := (Nat.div_lt_iff_lt_mul hp).2 (by omega)
  omega
theorem carry_sum (a b : Nat) {p : Nat} (hp : 0 < p) : carry a b p + (a / p % 256 + b / p % 256) = (a % (p * 256) + b % (p * 256)) / p := by
  unfold carry
  rw [mod256, mod256, show a % p + p * (a / p % 256) + (b % p + p * (b / p % 256)) = (a % p + b % p) + p * (a / p % 256 + b / p % 256) by rw [Nat.mul_add]; omega, Nat.add_mul_div_left _ _ hp]
theorem carry_byte (a b : Nat) {p : Nat} (hp : 0 < p) : UInt8.ofNat (carry a b p + (a / p % 256 + b / p % 256)) = UInt8.ofNat ((a + b) / p) := by
  rw [carry_sum a b hp]
  apply ofNat_mod
  rw [← divmod256, ← divmod256, ← Nat.add_mod]
theorem carry_next (a b : Nat) {p : Nat} (hp : 0 < p) : (carry a b p + (a / p % 256 + b / p % 256)) / 256 = carry a b (p * 256) := by
  rw [carry_sum a b hp, Nat.div_div_eq_div_mul]; rfl

/-- The borrow of a difference of digits. -/
def borrow (a b p : Nat) : Nat := if a % p < b % p then 1 else 0
theorem borrow_le (a b p : Nat) : borrow a b p ≤ 1 := by unfold borrow; split <;> omega
theorem borrow_next (a b : Nat) {p : Nat} (hp : 0 < p) : borrow a b (p * 256) = if ((a / p % 256 : Nat) : Int) - (b / p % 256 : Nat) - (borrow a b p : Nat) < 0 then 1 else 0 := by
  unfold borrow
  rw [mod256, mod256]
  have h1 := Nat.mod_lt a hp
  have h2 := Nat.mod_lt b hp
  generalize a / p % 256 = x
  generalize b / p % 256 = y
  generalize a % p = r at *
  generalize b % p = q at *
  have key : (r + p * x < q + p * y) ↔ (x < y ∨ (x = y ∧ r < q)) := by
    rcases Nat.lt_trichotomy x y with h | h | h
    · have := Nat.mul_le_mul_left p (show x + 1 ≤ y from h)
      rw [Nat.mul_add] at this
      simp only [h, true_or, iff_true]; omega
    · subst h; simp
    · have := Nat.mul_le_mul_left p (show y + 1 ≤ x from h)
      rw [Nat.mul_add] at this
      constructor
      · intro; omega
      · rintro (_ | ⟨_, _⟩) <;> omega
  by_cases hk : r + p * x < q + p * y
  · rw [if_pos hk, if_pos]
    rcases key.1 hk with h | ⟨h, h'⟩
    · split <;> omega
    · rw [if_pos h']; omega
  · rw [if_neg hk, if_neg]
    have := fun h => hk (key.2 h)
    split <;> omega
theorem borrow_byte (a b : Nat) {p : Nat} (hp : 0 < p) (h : b ≤ a) (d : Int) (hd : d = ((a / p % 256 : Nat) : Int) - (b / p % 256 : Nat) - (borrow a b p : Nat)) : d % 256 = (((a - b) / p % 256 : Nat) : Int) := by
  have h1 := Nat.mod_lt a hp
  have h2 := Nat.mod_lt b hp
  have e1 := Nat.div_add_mod a p
  have e2 := Nat.div_add_mod b p
  have hle : b / p + borrow a b p ≤ a / p := by
    have hdv := Nat.div_le_div_right (c := p) h
    unfold borrow
    split
    · rename_i hlt
      rcases Nat.lt_or_ge (b / p) (a / p) with g | g
      · omega
      · have : b / p = a / p := by omega
        rw [this] at e2
        omega
    · omega
  have key : (a - b) / p = a / p - b / p - borrow a b p := by
    have e3 : a - b = (a % p + borrow a b p * p - b % p) + p * (a / p - b / p - borrow a b p) := by
      rw [Nat.mul_sub, Nat.mul_sub, Nat.mul_comm (borrow a b p) p]
      have g1 : p * (b / p) + p * borrow a b p ≤ p * (a / p) := by rw [← Nat.mul_add]; exact Nat.mul_le_mul_left _ hle
      have g2 : b % p ≤ a % p + p * borrow a b p := by unfold borrow; split <;> simp <;> omega
      omega
    have hlt : a % p + borrow a b p * p - b % p < p := by unfold borrow; split <;> simp <;> omega
    rw [e3, Nat.add_mul_div_left _ _ hp, Nat.div_eq_of_lt hlt, Nat.zero_add]
  rw [key, hd]
  omega

/-! ## Products by columns -/
/-- The column k of a product, from the first n digits of a. -/
def colSum (a b : Nat) (k : Nat) : Nat → Nat
  | 0 => 0
  | i + 1 => colSum a b k i + (if i ≤ k then (a / 256 ^ i % 256) * (b / 256 ^ (k - i) % 256) else 0)
end Go.Dom
