/-
  A QUOTIENT OF TWO WORDS BY ONE: the scaled numbers: plain. Own work; no program in sight.
-/
import Derived.Test.YtpihmkhmhkopdaaGreatDoorB3
import Derived.Lib.ItoaNum
set_option linter.all false
namespace Go.Dom

theorem bitLen_bounds {y : Nat} (h0 : 0 < y) (h : y < 18446744073709551616) : 1 ≤ Lib.bitLen y ∧ 2 ^ (Lib.bitLen y - 1) ≤ y ∧ y < 2 ^ Lib.bitLen y := Lib.bitLenAux_bounds 64 y h (by omega)
/-- The scaled divisor and dividend. -/
structure Scaled (hi lo y s : Nat) : Prop where
  s64 : s < 64
  yl : 9223372036854775808 ≤ y * 2 ^ s
  yh : y * 2 ^ s < 18446744073709551616
  hil : hi * 2 ^ s + lo / 2 ^ (64 - s) < y * 2 ^ s
  eq : (hi * 18446744073709551616 + lo) * 2 ^ s = (hi * 2 ^ s + lo / 2 ^ (64 - s)) * 18446744073709551616 + lo * 2 ^ s % 18446744073709551616
  hs : hi * 2 ^ s < 18446744073709551616
  ol : lo / 2 ^ (64 - s) < 2 ^ s
theorem scaled {hi lo y : Nat} (h : hi < y) (hlo : lo < 18446744073709551616) (hy : y < 18446744073709551616) : Scaled hi lo y (64 - Lib.bitLen y) := by
  obtain ⟨b1, b2, b3⟩ := bitLen_bounds (y := y) (by omega) hy
  have b4 := Lib.bitLen_le y 64 (by decide) hy
  obtain ⟨s, hs⟩ : ∃ s, s = 64 - Lib.bitLen y := ⟨_, rfl⟩
  rw [← hs]
  have e1 : 2 ^ (Lib.bitLen y - 1) * 2 ^ s = 9223372036854775808 := by rw [← Nat.pow_add, show Lib.bitLen y - 1 + s = 63 by omega]
  have e2 : 2 ^ Lib.bitLen y * 2 ^ s = 18446744073709551616 := by rw [← Nat.pow_add, show Lib.bitLen y + s = 64 by omega]
  have e3 : 2 ^ (64 - s) * 2 ^ s = 18446744073709551616 := by rw [← Nat.pow_add, show 64 - s + s = 64 by omega]
  have hp := Nat.two_pow_pos s
  have hp' := Nat.two_pow_pos (64 - s)
  have c1 : 9223372036854775808 ≤ y * 2 ^ s := by rw [← e1]; exact Nat.mul_le_mul_right _ b2
  have c2 : y * 2 ^ s < 18446744073709551616 := by rw [← e2]; exact Nat.mul_lt_mul_of_pos_right b3 hp
  have c3 : lo / 2 ^ (64 - s) < 2 ^ s := by
    refine (Nat.div_lt_iff_lt_mul hp').2 ?_
    rw [Nat.mul_comm, e3]; exact hlo
  have c4 : hi * 2 ^ s + 2 ^ s ≤ y * 2 ^ s := by
    have : (hi + 1) * 2 ^ s ≤ y * 2 ^ s := Nat.mul_le_mul_right (2 ^ s) h
    rw [Nat.add_mul, Nat.one_mul] at this; exact this
  refine ⟨by omega, c1, c2, by omega, ?_, by omega, c3⟩
  have d1 := Nat.div_add_mod lo (2 ^ (64 - s))
  have d2 : lo * 2 ^ s % 18446744073709551616 = lo % 2 ^ (64 - s) * 2 ^ s := by
    rw [← e3, Nat.mul_mod_mul_right]
  have d3 : lo * 2 ^ s = lo / 2 ^ (64 - s) * 18446744073709551616 + lo % 2 ^ (64 - s) * 2 ^ s := by
    rw [← e3]
    have := congrArg (· * 2 ^ s) d1
    simp only [Nat.add_mul] at this
    rw [← this, Nat.mul_comm (2 ^ (64 - s)), Nat.mul_assoc]
  rw [d2, Nat.add_mul, d3, Nat.add_mul]
  have : hi * 18446744073709551616 * 2 ^ s = hi * 2 ^ s * 18446744073709551616 := by rw [Nat.mul_assoc, Nat.mul_comm 18446744073709551616, Nat.mul_assoc]
  omega
/-- What is left of a digit is less than the divisor. -/
theorem rest_word {u B t q y : Nat} (hq : q = (u * B + t) / y) : (u * B + t) - q * y = (u * B + t) % y := by
  have := Nat.div_add_mod (u * B + t) y
  rw [hq, Nat.mul_comm _ y]; omega
/-- Words wrap; the difference is a word. -/
theorem wrap_rest {u t z : Nat} (h1 : z ≤ u * 4294967296 + t) (h2 : u * 4294967296 + t - z < 18446744073709551616) :
    ((u * 4294967296 % 18446744073709551616 + t) % 18446744073709551616 + (18446744073709551616 - z % 18446744073709551616 % 18446744073709551616)) % 18446744073709551616 = u * 4294967296 + t - z := by omega
theorem dig_le {u t q y : Nat} (hq : q = (u * 4294967296 + t) / y) : q * y ≤ u * 4294967296 + t := by rw [hq]; exact Nat.div_mul_le_self _ _
/-- The whole. -/
theorem whole {N Y y s U V q1 q0 R : Nat} (hy : 0 < y) (hY : Y = y * 2 ^ s) (hN : N * 2 ^ s = U * 18446744073709551616 + V) (h1 : q1 = (U * 4294967296 + V / 4294967296) / Y) (hR : R = (U * 4294967296 + V / 4294967296) % Y) (h0 : q0 = (R * 4294967296 + V % 4294967296) / Y) :
    q1 * 4294967296 + q0 = N / y ∧ (R * 4294967296 + V % 4294967296) % Y / 2 ^ s = N % y := by
  have hp := Nat.two_pow_pos s
  have hYp : 0 < Y := by rw [hY]; exact Nat.mul_pos hy hp
  obtain ⟨a, b⟩ := two_digits (B := 4294967296) (y := Y) (N := N * 2 ^ s) (u := U) (t1 := V / 4294967296) (t0 := V % 4294967296) (by decide) hYp (by rw [hN]; omega) h1 hR h0
  rw [a, b, hY]
  exact ⟨Nat.mul_div_mul_right _ _ hp, by rw [Nat.mul_mod_mul_right, Nat.mul_div_cancel _ hp]⟩
end Go.Dom
