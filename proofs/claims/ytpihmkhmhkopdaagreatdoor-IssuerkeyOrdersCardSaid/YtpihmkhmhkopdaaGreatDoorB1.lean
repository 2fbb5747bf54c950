/-
  NUMBERS AS BYTES, plain: what a row of bytes counts, the bytes of a number, canonical bytes. Own work; no program in sight.
-/
import Derived.Test.YtpihmkhmhkopdaaGreatDoorT7
set_option linter.all false
namespace Go.Dom

/-- The number of big-endian bytes. -/
def num : Bytes → Nat
  | [] => 0
  | x :: r => x.toNat * 256 ^ r.length + num r
/-- The k low bytes of a number, big-endian. -/
def be : Nat → Nat → Bytes
  | 0, _ => []
  | k + 1, n => UInt8.ofNat (n / 256 ^ k) :: be k n
def trimB : Bytes → Bytes
  | [] => []
  | x :: r => if x = 0 then trimB r else x :: r
/-- The canonical bytes of a number. -/
def bts (n : Nat) : Bytes := trimB (be (n.log2 / 8 + 1) n)
def validN (a : Bytes) : Bool := decide (a.length ≤ 128) && (a.length == 0 || a.headD 0 != 0)

theorem be_len (k n : Nat) : (be k n).length = k := by induction k <;> simp_all [be]
theorem pow256_pos (k : Nat) : 0 < 256 ^ k := Nat.pow_pos (by decide)
theorem num_lt (a : Bytes) : num a < 256 ^ a.length := by
  induction a with
  | nil => decide
  | cons x r ih =>
    simp only [num, List.length_cons, Nat.pow_succ]
    have := x.toNat_lt
    have h2 : x.toNat * 256 ^ r.length ≤ 255 * 256 ^ r.length := Nat.mul_le_mul_right _ (by omega)
    omega
theorem num_append (a b : Bytes) : num (a ++ b) = num a * 256 ^ b.length + num b := by
  induction a with
  | nil => simp [num]
  | cons x r ih => simp only [List.cons_append, num, ih, List.length_append, Nat.pow_add, Nat.add_mul, Nat.mul_assoc]; omega
theorem num_snoc (a : Bytes) (x : UInt8) : num (a ++ [x]) = num a * 256 + x.toNat := by simp [num_append, num]
theorem num_be (k n : Nat) : num (be k n) = n % 256 ^ k := by
  induction k with
  | zero => simp [be, num, Nat.mod_one]
  | succ k ih =>
    simp only [be, num, be_len, ih, UInt8.toNat_ofNat']
    have h := Nat.mod_mul (x := n) (a := 256 ^ k) (b := 256)
    rw [show (256 : Nat) ^ (k + 1) = 256 ^ k * 256 from Nat.pow_succ .., h, Nat.mul_comm (256 ^ k)]
    show n / 256 ^ k % 256 * 256 ^ k + n % 256 ^ k = _
    omega
theorem be_num (a : Bytes) : be a.length (num a) = a := by
  induction a with
  | nil => rfl
  | cons x r ih =>
    have h : num (x :: r) = x.toNat * 256 ^ r.length + num r := rfl
    have h1 := num_lt r
    have h2 : num (x :: r) / 256 ^ r.length = x.toNat := by
      rw [h, Nat.mul_comm, Nat.mul_add_div (pow256_pos _), Nat.div_eq_of_lt h1]; omega
    have h3 : ∀ k m m', m % 256 ^ k = m' % 256 ^ k → be k m = be k m' := by
      intro k
      induction k with
      | zero => intros; rfl
      | succ k ih =>
        intro m m' hm
        have e1 : m / 256 ^ k % 256 = m' / 256 ^ k % 256 := by
          rw [Nat.pow_succ] at hm
          have a1 := Nat.mod_mul (x := m) (a := 256 ^ k) (b := 256)
          have a2 := Nat.mod_mul (x := m') (a := 256 ^ k) (b := 256)
          have b1 : m % (256 ^ k * 256) / 256 ^ k = m / 256 ^ k % 256 := by rw [Nat.mod_mul_right_div_self]
          have b2 : m' % (256 ^ k * 256) / 256 ^ k = m' / 256 ^ k % 256 := by rw [Nat.mod_mul_right_div_self]
          rw [← b1, ← b2, hm]
        have e2 : m % 256 ^ k = m' % 256 ^ k := by
          have a1 : m % 256 ^ (k + 1) % 256 ^ k = m % 256 ^ k := Nat.mod_mod_of_dvd _ (Nat.pow_dvd_pow 256 (Nat.le_succ k))
          have a2 : m' % 256 ^ (k + 1) % 256 ^ k = m' % 256 ^ k := Nat.mod_mod_of_dvd _ (Nat.pow_dvd_pow 256 (Nat.le_succ k))
          rw [← a1, ← a2, hm]
        simp only [be, ih m m' e2]
        congr 1
        apply UInt8.toNat_inj.1
        simpa using e1
    simp only [List.length_cons, be, h2]
    rw [show UInt8.ofNat x.toNat = x by simp, h3 r.length (num (x :: r)) (num r) (by rw [h, Nat.mul_add_mod_self_right]), ih]
theorem trimB_zeros (k : Nat) (a : Bytes) : trimB (List.replicate k 0 ++ a) = trimB a := by
  induction k with
  | zero => rfl
  | succ k ih => simp [List.replicate_succ, trimB, ih]
theorem trimB_form (a : Bytes) : ∃ k, a = List.replicate k 0 ++ trimB a ∧ (trimB a = [] ∨ (trimB a).headD 0 ≠ 0) := by
  induction a with
  | nil => exact ⟨0, rfl, .inl rfl⟩
  | cons x r ih =>
    simp only [trimB]
    split
    · rename_i h; subst h
      obtain ⟨k, e, h⟩ := ih
      exact ⟨k + 1, by simp [List.replicate_succ, ← e], h⟩
    · rename_i h; exact ⟨0, rfl, .inr h⟩
theorem num_zeros (k : Nat) (a : Bytes) : num (List.replicate k 0 ++ a) = num a := by
  induction k with
  | zero => rfl
  | succ k ih => simp [List.replicate_succ, num, ih]
theorem num_trim (a : Bytes) : num (trimB a) = num a := by
  obtain ⟨k, e, -⟩ := trimB_form a
  conv => rhs; rw [e, num_zeros]
theorem trim_len (a : Bytes) : (trimB a).length ≤ a.length := by
  obtain ⟨k, e, -⟩ := trimB_form a
  have := congrArg List.length e; simp at this; omega
/-- Canonical bytes have no other form. -/
def Canon (a : Bytes) : Prop := a = [] ∨ a.headD 0 ≠ 0
theorem trim_canon (a : Bytes) : Canon (trimB a) := by obtain ⟨k, -, h⟩ := trimB_form a; exact h
theorem canon_low {a : Bytes} (h : Canon a) (hne : a ≠ []) : 256 ^ (a.length - 1) ≤ num a := by
  cases a with
  | nil => exact absurd rfl hne
  | cons x r =>
    rcases h with h | h
    · cases h
    · have hx : 0 < x.toNat := by
        rcases Nat.eq_zero_or_pos x.toNat with e | e
        · exact absurd (UInt8.toNat_inj.1 e : x = 0) h
        · exact e
      simp only [num, List.length_cons, Nat.add_sub_cancel]
      have := Nat.mul_le_mul_right (256 ^ r.length) hx
      omega
theorem canon_inj {a b : Bytes} (ha : Canon a) (hb : Canon b) (h : num a = num b) : a = b := by
  have key : ∀ {a b : Bytes}, Canon a → Canon b → num a = num b → a.length ≤ b.length := by
    intro a b ha hb h
    by_cases hne : a = []
    · subst hne; simp
    · have h1 := canon_low ha hne
      have h2 := num_lt b
      have h3 : 256 ^ (a.length - 1) < 256 ^ b.length := by omega
      have := (Nat.pow_lt_pow_iff_right (by decide : 1 < 256)).1 h3
      omega
  have hl : a.length = b.length := Nat.le_antisymm (key ha hb h) (key hb ha h.symm)
  have h1 := be_num a
  rw [h, hl, be_num b] at h1
  exact h1.symm
theorem log2_be (n : Nat) : n < 256 ^ (n.log2 / 8 + 1) := by
  have h1 : n < 2 ^ (n.log2 + 1) := Nat.lt_log2_self
  have h2 : (256 : Nat) ^ (n.log2 / 8 + 1) = 2 ^ (8 * (n.log2 / 8 + 1)) := by rw [Nat.pow_mul]
  rw [h2]
  exact Nat.lt_of_lt_of_le h1 (Nat.pow_le_pow_right (by decide) (by omega))
theorem num_bts (n : Nat) : num (bts n) = n := by
  rw [bts, num_trim, num_be]; exact Nat.mod_eq_of_lt (log2_be n)
theorem bts_canon (n : Nat) : Canon (bts n) := trim_canon _
theorem bts_num {a : Bytes} (h : Canon a) : bts (num a) = a := canon_inj (bts_canon _) h (num_bts _)
theorem trim_bts (a : Bytes) : trimB a = bts (num a) := canon_inj (trim_canon _) (bts_canon _) (by rw [num_trim, num_bts])
theorem trim_be {k n : Nat} (h : n < 256 ^ k) : trimB (be k n) = bts n := by rw [trim_bts, num_be, Nat.mod_eq_of_lt h]
theorem bts_zero : bts 0 = [] := by decide
theorem bts_len {n k : Nat} : (bts n).length ≤ k ↔ n < 256 ^ k := by
  constructor
  · intro h
    have := num_lt (bts n)
    rw [num_bts] at this
    exact Nat.lt_of_lt_of_le this (Nat.pow_le_pow_right (by decide) h)
  · intro h
    by_cases hne : bts n = []
    · simp [hne]
    · have h1 := canon_low (bts_canon n) hne
      rw [num_bts] at h1
      have h3 : 256 ^ ((bts n).length - 1) < 256 ^ k := by omega
      have := (Nat.pow_lt_pow_iff_right (by decide : 1 < 256)).1 h3
      omega
theorem bts_inj {m n : Nat} : bts m = bts n ↔ m = n := ⟨fun h => by rw [← num_bts m, h, num_bts], fun h => by rw [h]⟩
theorem bts_nil {n : Nat} : bts n = [] ↔ n = 0 := by rw [← bts_zero]; exact bts_inj
theorem validN_iff (a : Bytes) : validN a = true ↔ a.length ≤ 128 ∧ Canon a := by
  unfold validN Canon
  cases a with
  | nil => simp
  | cons x r => simp
theorem canon_of {a : Bytes} (h : validN a = true) : Canon a := ((validN_iff a).1 h).2
theorem bts_of {a : Bytes} (h : validN a = true) : bts (num a) = a := bts_num (canon_of h)
theorem len_of {a : Bytes} (h : validN a = true) : a.length ≤ 128 := ((validN_iff a).1 h).1
theorem num_of {a : Bytes} (h : validN a = true) : num a < 256 ^ 128 := Nat.lt_of_lt_of_le (num_lt a) (Nat.pow_le_pow_right (by decide) (len_of h))
theorem valid_bts {n : Nat} (h : n < 256 ^ 128) : validN (bts n) = true := (validN_iff _).2 ⟨bts_len.2 h, bts_canon n⟩
theorem num_inj {a b : Bytes} (ha : validN a = true) (hb : validN b = true) : num a = num b ↔ a = b := ⟨canon_inj (canon_of ha) (canon_of hb), fun h => by rw [h]⟩
theorem num_zero {a : Bytes} (ha : validN a = true) : num a = 0 ↔ a = [] := by
  constructor
  · intro h; exact canon_inj (canon_of ha) (.inl rfl) h
  · intro h; subst h; rfl
/-- The byte with the weight 256^i. -/
theorem num_digit (a : Bytes) {i : Nat} (h : i < a.length) : (a.getD (a.length - 1 - i) 0).toNat = num a / 256 ^ i % 256 := by
  have e : a = a.take (a.length - 1 - i) ++ (a.getD (a.length - 1 - i) 0 :: a.drop (a.length - i)) := by
    have h2 : a.length - 1 - i < a.length := by omega
    conv => lhs; rw [← List.take_append_drop (a.length - 1 - i) a, List.drop_eq_getElem_cons h2]
    rw [show a.length - 1 - i + 1 = a.length - i by omega]
    simp [List.getD_eq_getElem?_getD, h2]
  have hl : (a.drop (a.length - i)).length = i := by simp; omega
  have hn := num_append (a.take (a.length - 1 - i)) (a.getD (a.length - 1 - i) 0 :: a.drop (a.length - i))
  rw [← e] at hn
  simp only [num, List.length_cons, hl] at hn
  have hlt := num_lt (a.drop (a.length - i))
  rw [hl] at hlt
  generalize (a.getD (a.length - 1 - i) 0) = c at hn ⊢
  have hc := c.toNat_lt
  have : num a = (num (a.take (a.length - 1 - i)) * 256 + c.toNat) * 256 ^ i + num (a.drop (a.length - i)) := by
    rw [hn, Nat.pow_succ, Nat.add_mul, Nat.mul_assoc, Nat.mul_comm 256]; omega
  rw [this, Nat.mul_comm _ (256 ^ i), Nat.mul_add_div (pow256_pos _), Nat.div_eq_of_lt hlt]
  omega
theorem num_digit0 (a : Bytes) {i : Nat} (h : a.length ≤ i) : num a / 256 ^ i = 0 := Nat.div_eq_of_lt (Nat.lt_of_lt_of_le (num_lt a) (Nat.pow_le_pow_right (by decide) h))

/-! ## Comparing -/
theorem num_cons_lt (x y : UInt8) {r s : Bytes} (hl : r.length = s.length) : num (x :: r) < num (y :: s) ↔ x.toNat < y.toNat ∨ (x = y ∧ num r < num s) := by
  simp only [num, hl]
  have h1 := num_lt r
  have h2 := num_lt s
  rw [hl] at h1
  generalize 256 ^ s.length = p at h1 h2 ⊢
  rcases Nat.lt_trichotomy x.toNat y.toNat with h | h | h
  · have := Nat.mul_le_mul_right p (show x.toNat + 1 ≤ y.toNat from h)
    rw [Nat.add_mul] at this
    simp only [h, true_or, iff_true]; omega
  · have : x = y := UInt8.toNat_inj.1 h
    subst this
    simp
  · have := Nat.mul_le_mul_right p (show y.toNat + 1 ≤ x.toNat from h)
    rw [Nat.add_mul] at this
    have hne : x ≠ y := fun e => by subst e; omega
    simp only [hne, false_and, or_false]; omega
theorem canon_len_lt {a b : Bytes} (hb : Canon b) (h : a.length < b.length) : num a < num b := by
  have h1 := num_lt a
  have h2 := canon_low hb (by intro e; subst e; simp at h)
  exact Nat.lt_of_lt_of_le h1 (Nat.le_trans (Nat.pow_le_pow_right (by decide) (by omega)) h2)

/-- Cells of bytes: one is written. -/
theorem bcells_set (l : Bytes) {o : Nat} (c : UInt8) (h : o < l.length) : (bcells l).take o ++ (.v (.i .u8 (c.toNat : Int)) :: (bcells l).drop (o + 1)) = bcells (l.set o c) := by
  unfold bcells
  rw [List.map_set, List.set_eq_take_append_cons_drop]
  simp [h, u8]
theorem set_mid {α : Type} (l m : List α) (x y : α) : (l ++ x :: m).set l.length y = l ++ y :: m := by simp
theorem zeros_snoc (k : Nat) : (List.replicate (k + 1) (0 : UInt8)) = List.replicate k 0 ++ [0] := by rw [List.replicate_succ']
/-- Bytes are filled in from the end. -/
theorem fill_set {n i : Nat} (hi : i < n) (c : UInt8) (b : Bytes) : (List.replicate (n - i) (0 : UInt8) ++ b).set (n - 1 - i) c = List.replicate (n - (i + 1)) 0 ++ (c :: b) := by
  obtain ⟨k, rfl⟩ : ∃ k, n = k + i + 1 := ⟨n - i - 1, by omega⟩
  rw [show k + i + 1 - i = k + 1 by omega, show k + i + 1 - 1 - i = k by omega, show k + i + 1 - (i + 1) = k by omega, zeros_snoc]
  have := set_mid (List.replicate k (0 : UInt8)) b 0 c
  simpa using this
end Go.Dom
