/-
  NUMBERS: primes, Fermat, lists without repetition: plain. Own work; no program in sight.
-/
set_option linter.all false
namespace Go.Num

/-- A prime number. -/
def Pr (n : Nat) : Prop := 2 ≤ n ∧ ∀ d, d ∣ n → d = 1 ∨ d = n
theorem Pr.cop {p a : Nat} (h : Pr p) (ha : ¬ p ∣ a) : Nat.Coprime a p := by
  rcases h.2 _ (Nat.gcd_dvd_right a p) with e | e
  · exact e
  · exact absurd (e ▸ Nat.gcd_dvd_left a p) ha
theorem Pr.dvd_mul {p a b : Nat} (h : Pr p) (hab : p ∣ a * b) : p ∣ a ∨ p ∣ b := by
  by_cases ha : p ∣ a
  · exact .inl ha
  · exact .inr ((h.cop ha).symm.dvd_of_dvd_mul_left hab)

/-- No more places than things: a list without repetition within another one of its length is that list, turned around. -/
theorem perm_of_sub {l m : List Nat} (hn : l.Nodup) (hs : ∀ x ∈ l, x ∈ m) (hl : l.length = m.length) : l.Perm m := by
  induction l generalizing m with
  | nil => cases m with
    | nil => exact .nil
    | cons => simp at hl
  | cons a l ih =>
    have ha : a ∈ m := hs a (by simp)
    have hp := List.perm_cons_erase ha
    refine .trans (.cons a (ih (m := m.erase a) (List.nodup_cons.1 hn).2 (fun x hx => ?_) ?_)) hp.symm
    · have hne : x ≠ a := fun e => (List.nodup_cons.1 hn).1 (e ▸ hx)
      exact (List.mem_erase_of_ne hne).2 (hs x (by simp [hx]))
    · have := List.length_erase_of_mem ha
      simp at hl; omega

theorem mod_of_dvd_sub {p x y : Nat} (hxy : y ≤ x) (h : p ∣ x - y) : x % p = y % p := by
  obtain ⟨c, hc⟩ := h
  have : x = y + p * c := by omega
  rw [this, Nat.add_mul_mod_self_left]
theorem modEq_cancel {p a x y : Nat} (hc : Nat.Coprime a p) (h : a * x % p = a * y % p) : x % p = y % p := by
  have key : ∀ {x y : Nat}, y ≤ x → a * x % p = a * y % p → x % p = y % p := by
    intro x y hxy h
    have hd : p ∣ a * x - a * y := Nat.dvd_of_mod_eq_zero (Nat.sub_mod_eq_zero_of_mod_eq h)
    rw [← Nat.mul_sub] at hd
    exact mod_of_dvd_sub hxy (hc.symm.dvd_of_dvd_mul_left hd)
  rcases Nat.le_total x y with g | g
  · exact (key g h.symm).symm
  · exact key g h

def prodL : List Nat → Nat
  | [] => 1
  | x :: l => x * prodL l
theorem prodL_perm {l m : List Nat} (h : l.Perm m) : prodL l = prodL m := by
  induction h with
  | nil => rfl
  | cons x _ ih => simp [prodL, ih]
  | swap x y l => simp only [prodL]; rw [← Nat.mul_assoc, ← Nat.mul_assoc, Nat.mul_comm x y]
  | trans _ _ h1 h2 => exact h1.trans h2
theorem prodL_map (a p : Nat) (l : List Nat) : prodL (l.map fun i => a * i % p) % p = a ^ l.length * prodL l % p := by
  induction l with
  | nil => rfl
  | cons x l ih =>
    simp only [List.map_cons, prodL, List.length_cons]
    rw [Nat.mul_mod, ih, Nat.mod_mod, ← Nat.mul_mod, Nat.pow_succ]
    congr 1
    simp only [Nat.mul_assoc, Nat.mul_comm, Nat.mul_left_comm]
theorem prodL_cop {p : Nat} (hp : Pr p) {l : List Nat} (h : ∀ x ∈ l, 0 < x ∧ x < p) : Nat.Coprime (prodL l) p := by
  induction l with
  | nil => exact Nat.coprime_one_left p
  | cons x l ih =>
    refine Nat.Coprime.mul_left (hp.cop fun hd => ?_) (ih fun y hy => h y (by simp [hy]))
    have := h x (by simp)
    have := Nat.le_of_dvd this.1 hd
    omega
theorem nodup_map_on {f : Nat → Nat} {l : List Nat} (hn : l.Nodup) (hf : ∀ x ∈ l, ∀ y ∈ l, f x = f y → x = y) : (l.map f).Nodup := by
  induction l with
  | nil => simp
  | cons a l ih =>
    rw [List.map_cons, List.nodup_cons]
    refine ⟨fun hm => ?_, ih (List.nodup_cons.1 hn).2 fun x hx y hy => hf x (by simp [hx]) y (by simp [hy])⟩
    obtain ⟨b, hb, e⟩ := List.mem_map.1 hm
    have := hf b (by simp [hb]) a (by simp) e
    exact (List.nodup_cons.1 hn).1 (this ▸ hb)
/-- Fermat's little theorem. -/
theorem fermat {p a : Nat} (hp : Pr p) (ha : ¬ p ∣ a) : a ^ (p - 1) % p = 1 := by
  have h2 := hp.1
  have hc := hp.cop ha
  have hm : ∀ x ∈ List.range' 1 (p - 1), 0 < x ∧ x < p := by intro x hx; simp [List.mem_range'_1] at hx; omega
  have hmap : (List.range' 1 (p - 1)).map (fun i => a * i % p) |>.Perm (List.range' 1 (p - 1)) := by
    refine perm_of_sub (nodup_map_on (List.nodup_range' ..) fun x hx y hy e => ?_) (fun x hx => ?_) (by simp)
    · have := modEq_cancel hc e
      rwa [Nat.mod_eq_of_lt (hm x hx).2, Nat.mod_eq_of_lt (hm y hy).2] at this
    · obtain ⟨i, hi, rfl⟩ := List.mem_map.1 hx
      have h1 : a * i % p < p := Nat.mod_lt _ (by omega)
      have h3 : a * i % p ≠ 0 := fun e => by
        rcases hp.dvd_mul (Nat.dvd_of_mod_eq_zero e) with g | g
        · exact ha g
        · have := Nat.le_of_dvd (hm i hi).1 g
          have := (hm i hi).2
          omega
      simp [List.mem_range'_1]; omega
  have e1 := prodL_map a p (List.range' 1 (p - 1))
  rw [prodL_perm hmap, List.length_range'] at e1
  have hcp := prodL_cop hp hm
  have := modEq_cancel (x := 1) (y := a ^ (p - 1)) hcp (by rw [Nat.mul_one, e1, Nat.mul_comm])
  rw [← this, Nat.mod_eq_of_lt (by omega)]

/-- Powers that are 1. -/
theorem pow_mod_mul {a p m : Nat} (k : Nat) (hp : 2 ≤ p) (h : a ^ m % p = 1) : a ^ (m * k) % p = 1 := by
  rw [Nat.pow_mul, Nat.pow_mod, h, Nat.one_pow, Nat.mod_eq_of_lt (by omega)]
theorem pow_mod_add {a p m n : Nat} (hp : 2 ≤ p) (h : a ^ m % p = 1) : a ^ (m + n) % p = a ^ n % p := by
  rw [Nat.pow_add, Nat.mul_mod, h, Nat.one_mul, Nat.mod_mod]
theorem pow_gcd {a p : Nat} (hp : 2 ≤ p) : ∀ m n, a ^ m % p = 1 → a ^ n % p = 1 → a ^ Nat.gcd m n % p = 1
  | 0, n, _, hn => by rw [Nat.gcd_zero_left]; exact hn
  | m + 1, n, hm, hn => by
    rw [Nat.gcd_succ]
    have : n % (m + 1) < m + 1 := Nat.mod_lt _ (by omega)
    refine pow_gcd hp (n % (m + 1)) (m + 1) ?_ hm
    have e := Nat.div_add_mod n (m + 1)
    rw [← e] at hn
    rwa [pow_mod_add hp (pow_mod_mul _ hp hm)] at hn
  termination_by m => m
end Go.Num
