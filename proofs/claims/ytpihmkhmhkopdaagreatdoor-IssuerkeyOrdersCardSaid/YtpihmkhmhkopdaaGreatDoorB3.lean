/-
  A QUOTIENT OF TWO WORDS BY ONE, with an estimate of each half: plain. Own work; no program in sight.
-/
import Derived.Test.YtpihmkhmhkopdaaGreatDoorB2
set_option linter.all false
namespace Go.Dom

/-- A digit of the quotient: u digits above, y the divisor of two digits y1, y0 below B; t the next digit. -/
structure Dig (B y y1 y0 u t q r : Nat) : Prop where
  s : q * y1 + r = u
  ge : (u * B + t) / y ≤ q
/-- The estimate is too great. -/
theorem Dig.step {B y y1 y0 u t q r : Nat} (hy : y = y1 * B + y0) (hy0 : 0 < y) (h : Dig B y y1 y0 u t q r) (hu : u < y) (ht : t < B) (hc : B ≤ q ∨ B * r + t < q * y0) : 0 < q ∧ Dig B y y1 y0 u t (q - 1) (r + y1) := by
  have hlt : (u * B + t) / y < q := by
    rcases hc with hc | hc
    · refine Nat.lt_of_lt_of_le ((Nat.div_lt_iff_lt_mul hy0).2 ?_) hc
      have : (u + 1) * B ≤ y * B := Nat.mul_le_mul_right _ hu
      rw [Nat.add_mul] at this
      rw [Nat.mul_comm B y]; omega
    · refine (Nat.div_lt_iff_lt_mul hy0).2 ?_
      have e : q * y = q * y1 * B + q * y0 := by rw [hy, Nat.mul_add, Nat.mul_assoc]
      have e2 : u * B = q * y1 * B + B * r := by rw [← h.s, Nat.add_mul, Nat.mul_comm r B]
      omega
  have hq : 0 < q := Nat.lt_of_le_of_lt (Nat.zero_le _) hlt
  refine ⟨hq, ⟨?_, Nat.le_sub_one_of_lt hlt⟩⟩
  have := h.s
  obtain ⟨k, rfl⟩ : ∃ k, q = k + 1 := ⟨q - 1, by omega⟩
  rw [Nat.add_mul] at this
  simp only [Nat.add_sub_cancel]
  omega
/-- The estimate is right. -/
theorem Dig.done {B y y1 y0 u t q r : Nat} (hy : y = y1 * B + y0) (hy0 : 0 < y) (h : Dig B y y1 y0 u t q r) (hc : q * y0 ≤ B * r + t) : q = (u * B + t) / y := by
  refine Nat.le_antisymm ((Nat.le_div_iff_mul_le hy0).2 ?_) h.ge
  have e : q * y = q * y1 * B + q * y0 := by rw [hy, Nat.mul_add, Nat.mul_assoc]
  have e2 : u * B = q * y1 * B + B * r := by rw [← h.s, Nat.add_mul, Nat.mul_comm r B]
  omega
/-- The rest is great: then the estimate is right. -/
theorem Dig.big {B y y1 y0 u t q r : Nat} (hy : y = y1 * B + y0) (hy0 : 0 < y) (hy0B : y0 < B) (h : Dig B y y1 y0 u t q r) (hu : u < y) (hr : B ≤ r) : q = (u * B + t) / y := by
  have hq : q < B := by
    rcases Nat.lt_or_ge q B with g | g
    · exact g
    · exfalso
      have := Nat.mul_le_mul_right y1 g
      have := h.s
      rw [Nat.mul_comm B y1] at *
      omega
  refine h.done hy hy0 ?_
  have h1 : q * y0 ≤ B * y0 := Nat.mul_le_mul_right _ (by omega)
  have h2 : B * y0 ≤ B * r := Nat.mul_le_mul_left _ (by omega)
  omega
theorem Dig.start {B y y1 y0 u t : Nat} (hy : y = y1 * B + y0) (hy1 : 0 < y1) (hu : u < y) (ht : t < B) : Dig B y y1 y0 u t (u / y1) (u % y1) := by
  refine ⟨by have := Nat.div_add_mod u y1; rw [Nat.mul_comm]; omega, ?_⟩
  rcases Nat.eq_zero_or_pos B with hB | hB
  · subst hB; omega
  · have : (u * B + t) / y ≤ (u * B + t) / (y1 * B) := Nat.div_le_div_left (by omega) (Nat.mul_pos hy1 hB)
    refine Nat.le_trans this ?_
    rw [Nat.mul_comm y1 B, ← Nat.div_div_eq_div_mul, Nat.mul_comm u B, Nat.mul_add_div hB, Nat.div_eq_of_lt ht]
    exact Nat.le_refl _
/-- The quotient of a word is small. -/
theorem Dig.lt {B y y1 y0 u t q : Nat} (hy0 : 0 < y) (hu : u < y) (ht : t < B) (h : q = (u * B + t) / y) : q < B := by
  rw [h]
  refine (Nat.div_lt_iff_lt_mul hy0).2 ?_
  have : (u + 1) * B ≤ y * B := Nat.mul_le_mul_right _ hu
  rw [Nat.add_mul] at this
  rw [Nat.mul_comm B y]; omega

/-- Two digits of a quotient, then the scale is taken back. -/
theorem two_digits {B y N u t1 t0 q1 q0 r1 : Nat} (hB : 0 < B) (hy : 0 < y) (hN : N = u * (B * B) + t1 * B + t0) (h1 : q1 = (u * B + t1) / y) (hr : r1 = (u * B + t1) % y) (h0 : q0 = (r1 * B + t0) / y) : q1 * B + q0 = N / y ∧ (r1 * B + t0) % y = N % y := by
  have e : N = (r1 * B + t0) + y * (q1 * B) := by
    have := Nat.div_add_mod (u * B + t1) y
    rw [← h1, ← hr] at this
    have e2 : (u * B + t1) * B = y * q1 * B + r1 * B := by rw [← this, Nat.add_mul]
    rw [hN, ← Nat.mul_assoc, ← Nat.mul_assoc y]
    rw [Nat.add_mul] at e2
    omega
  rw [e, Nat.add_mul_div_left _ _ hy, Nat.add_mul_mod_self_left, ← h0]
  exact ⟨by omega, rfl⟩
end Go.Dom
