/-
  THE PLAIN LAW: the powers of S are as many as the squares, and every square is one of them. Own work; no program in sight.
-/
import Derived.Test.YtpihmkhmhkopdaaGreatDoorM4
set_option linter.all false
namespace Go.Num
theorem all_range {n : Nat} {p : Nat → Bool} (h : (List.range n).all p = true) {x : Nat} (hx : x < n) : p x = true := List.all_eq_true.1 h x (List.mem_range.2 hx)
theorem MR_two {n : Nat} (h : isMR n = true) : 2 ≤ n := by
  rcases Nat.lt_or_ge n 2 with g | g
  · simp [isMR, g] at h
  · exact g
theorem MR_prime {n : Nat} (h : isMR n = true) (hn : n < 13108) : Pr n := by
  have h2 := MR_two h
  refine ⟨h2, fun d hd => ?_⟩
  have key : ∀ d, 2 ≤ d → d < 115 → d ∣ n → n = d := by
    intro d h1 h3 hd
    have := all_range chk1 hn
    simp only [h, Bool.not_true, Bool.false_or] at this
    have := List.all_eq_true.1 this d (by simp [List.mem_range'_1]; omega)
    simpa [Nat.mod_eq_zero_of_dvd hd] using this
  obtain ⟨e, he⟩ := hd
  rcases Nat.lt_or_ge d 2 with g | g
  · have : d ≠ 0 := fun h0 => by subst h0; simp at he; omega
    exact .inl (by omega)
  · rcases Nat.lt_or_ge d 115 with g2 | g2
    · exact .inr (key d g g2 ⟨e, he⟩).symm
    · have he2 : e < 115 := by
        rcases Nat.lt_or_ge e 115 with g3 | g3
        · exact g3
        · have := Nat.mul_le_mul g2 g3; omega
      rcases Nat.lt_or_ge e 2 with g3 | g3
      · have : e ≠ 0 := fun h0 => by subst h0; simp at he; omega
        obtain rfl : e = 1 := by omega
        exact .inr (by omega)
      · have := key e g3 he2 ⟨d, by rw [he, Nat.mul_comm]⟩
        have : 2 * e ≤ d * e := Nat.mul_le_mul_right e g
        omega
structure Safe (P : Nat) : Prop where
  ge : 5 ≤ P
  pr : Pr P
  hp : Pr ((P - 1) / 2)
  two : P = 2 * ((P - 1) / 2) + 1
theorem safe_ge {P : Nat} (h : isSafe P = true) : 5 ≤ P := by
  simp only [isSafe, Bool.and_eq_true] at h
  have := MR_two h.2; omega
theorem safe_of {P : Nat} (h : isSafe P = true) (hP : P < 13108) : Safe P := by
  have h5 := safe_ge h
  simp only [isSafe, Bool.and_eq_true] at h
  have hp := MR_prime h.1 hP
  refine ⟨h5, hp, MR_prime h.2 (by omega), ?_⟩
  have : P % 2 ≠ 0 := fun e => by
    rcases hp.2 2 (Nat.dvd_of_mod_eq_zero e) with g | g <;> omega
  omega
theorem dvd_pow_self' {S n : Nat} (h : n ≠ 0) : S ∣ S ^ n := by
  obtain ⟨k, rfl⟩ : ∃ k, n = k + 1 := ⟨n - 1, by omega⟩
  exact ⟨S ^ k, by rw [Nat.pow_succ, Nat.mul_comm]⟩
theorem mod_dvd_pow {S n N P : Nat} (hd : P ∣ N) (hP : 2 ≤ P) (h : S ^ n % N = 1) : S ^ n % P = 1 := by
  rw [← Nat.mod_mod_of_dvd _ hd, h, Nat.mod_eq_of_lt (by omega)]
theorem half_dvd {P S n : Nat} (hs : isSafe P = true) (hlt : P < 13108) (hj : jac S P = 1) (hS : S % P ≠ 1) (hn : 0 < n) (h : S ^ n % P = 1) : (P - 1) / 2 ∣ n := by
  obtain ⟨h5, hp, hq, e2⟩ := safe_of hs hlt
  have hnd : ¬ P ∣ S := fun hd => by
    have : S ^ n % P = 0 := Nat.mod_eq_zero_of_dvd (Nat.dvd_trans hd (dvd_pow_self' (by omega)))
    omega
  have hf := fermat hp hnd
  obtain ⟨q, hqe⟩ : ∃ q, q = (P - 1) / 2 := ⟨_, rfl⟩
  rw [← hqe] at hq e2 ⊢
  have hP1 : P - 1 = q * 2 := by omega
  rw [hP1] at hf
  have hg := pow_gcd (by omega) _ _ h hf
  by_cases hd : q ∣ n
  · exact hd
  · exfalso
    have hc : Nat.Coprime n q := hq.cop hd
    rw [Nat.Coprime.gcd_mul_left_cancel_right 2 hc.symm] at hg
    have hg2 : Nat.gcd n 2 = 1 ∨ Nat.gcd n 2 = 2 := by
      have := Nat.le_of_dvd (by decide) (Nat.gcd_dvd_right n 2)
      have : Nat.gcd n 2 ≠ 0 := fun e => by have := Nat.eq_zero_of_gcd_eq_zero_right e; omega
      omega
    rcases hg2 with e | e
    · rw [e, Nat.pow_one] at hg; exact hS hg
    · rw [e, Nat.pow_mod] at hg
      have hr : S % P < P := Nat.mod_lt _ (by omega)
      obtain ⟨r, hre⟩ : ∃ r, r = S % P := ⟨_, rfl⟩
      rw [← hre] at hg hr hS
      have hr0 : r ≠ 0 := fun e0 => by subst e0; simp at hg
      have hdv : P ∣ (r - 1) * (r + 1) := by
        have e1 : (r - 1) * (r + 1) = r ^ 2 - 1 := by
          obtain ⟨k, rfl⟩ : ∃ k, r = k + 1 := ⟨r - 1, by omega⟩
          simp only [Nat.add_sub_cancel, Nat.pow_two, Nat.mul_add, Nat.add_mul]; omega
        rw [e1]
        refine Nat.dvd_of_mod_eq_zero (Nat.sub_mod_eq_zero_of_mod_eq ?_)
        rw [hg, Nat.mod_eq_of_lt (by omega)]
      rcases hp.dvd_mul hdv with g | g
      · have := Nat.le_of_dvd (by omega) g; omega
      · have := Nat.le_of_dvd (by omega) g
        have hrP : r = P - 1 := by omega
        have hcc := all_range chk2 hlt
        have hj2 : jac (P - 1) P = 1 := by rw [← hrP, hre, jac_mod, hj]
        simp only [hs, hj2, Bool.not_true, Bool.false_or, bne_self_eq_false, Bool.or_false, beq_iff_eq] at hcc
        have : 2 ∣ n := e ▸ Nat.gcd_dvd_left n 2
        have : q = 2 := by omega
        subst this
        exact hd ‹_›
theorem crt1 {P Q x : Nat} (hc : Nat.Coprime P Q) (hP : 2 ≤ P) (hQ : 2 ≤ Q) (h1 : x % P = 1) (h2 : x % Q = 1) : x % (P * Q) = 1 := by
  have hx : 1 ≤ x := by
    rcases Nat.eq_zero_or_pos x with e | e
    · subst e; simp at h1
    · exact e
  have d1 : P ∣ x - 1 := Nat.dvd_of_mod_eq_zero (Nat.sub_mod_eq_zero_of_mod_eq (by rw [h1, Nat.mod_eq_of_lt (by omega)]))
  have d2 : Q ∣ x - 1 := Nat.dvd_of_mod_eq_zero (Nat.sub_mod_eq_zero_of_mod_eq (by rw [h2, Nat.mod_eq_of_lt (by omega)]))
  have := mod_of_dvd_sub hx (hc.mul_dvd_of_dvd_of_dvd d1 d2)
  have h4 : 2 * 2 ≤ P * Q := Nat.mul_le_mul hP hQ
  rw [this, Nat.mod_eq_of_lt (by omega)]
theorem primes_cop {p q : Nat} (hp : Pr p) (hq : Pr q) (hne : p ≠ q) : Nat.Coprime p q := by
  refine hq.cop fun hd => ?_
  rcases hp.2 q hd with e | e
  · have := hq.1; omega
  · exact hne e.symm
theorem euler {P x : Nat} (hs : isSafe P = true) (hP : P < 402) (hj : jac x P = 1) : x ^ ((P - 1) / 2) % P = 1 := by
  have h5 := safe_ge hs
  have h1 := all_range chk3 hP
  simp only [hs, Bool.not_true, Bool.false_or] at h1
  have := all_range h1 (Nat.mod_lt x (by omega))
  simp only [jac_mod, hj, bne_self_eq_false, Bool.false_or, beq_iff_eq] at this
  rw [Nat.pow_mod]; exact this
/-- In a key that fits, the powers of S are as many as the squares, and every square is one of them. -/
theorem orders {P Q N S n : Nat} (hN : N = P * Q) (hlt : N < 65536) (hP : isSafe P = true) (hQ : isSafe Q = true) (hne : P ≠ Q)
    (jP : jac S P = 1) (jQ : jac S Q = 1) (sP : S % P ≠ 1) (sQ : S % Q ≠ 1) (hn0 : 0 < n) (hn : n ≤ 401) (h1 : S ^ n % N = 1) (hmin : ∀ m, 0 < m → m < n → S ^ m % N ≠ 1) :
    n = (P - 1) / 2 * ((Q - 1) / 2) ∧ ∀ y, y < N → jac y P = 1 → jac y Q = 1 → ∃ i, i < n ∧ S ^ i % N = y := by
  have p5 := safe_ge hP
  have q5 := safe_ge hQ
  have hPl : P < 13108 := by have := Nat.mul_le_mul_left P q5; omega
  have hQl : Q < 13108 := by have := Nat.mul_le_mul_right Q p5; omega
  obtain ⟨-, pp, pq, pe⟩ := safe_of hP hPl
  obtain ⟨-, qp, qq, qe⟩ := safe_of hQ hQl
  have dP : P ∣ N := ⟨Q, hN⟩
  have dQ : Q ∣ N := ⟨P, by rw [hN, Nat.mul_comm]⟩
  have a1 := half_dvd hP hPl jP sP hn0 (mod_dvd_pow dP (by omega) h1)
  have a2 := half_dvd hQ hQl jQ sQ hn0 (mod_dvd_pow dQ (by omega) h1)
  have hhc := primes_cop pq qq (by omega)
  have hc := primes_cop pp qp hne
  have hd := hhc.mul_dvd_of_dvd_of_dvd a1 a2
  have hle := Nat.le_of_dvd hn0 hd
  have p2 := pq.1
  have q2 := qq.1
  have hPs : P < 402 := by have := Nat.mul_le_mul_left ((P - 1) / 2) q2; omega
  have hQs : Q < 402 := by have := Nat.mul_le_mul_right ((Q - 1) / 2) p2; omega
  have eP := euler hP hPs jP
  have eQ := euler hQ hQs jQ
  have e1 : S ^ ((P - 1) / 2 * ((Q - 1) / 2)) % N = 1 := by
    rw [hN]
    refine crt1 hc (by omega) (by omega) (pow_mod_mul _ (by omega) eP) ?_
    rw [Nat.mul_comm]; exact pow_mod_mul _ (by omega) eQ
  have hn' : n = (P - 1) / 2 * ((Q - 1) / 2) := by
    refine Nat.le_antisymm (Nat.le_of_not_lt fun hg => hmin _ (Nat.mul_pos (by omega) (by omega)) hg e1) hle
  refine ⟨hn', fun y hy y1 y2 => ?_⟩
  have hPm : P ∈ smallSafe := by rw [← smallSafe_eq]; simp [hP, hPs]
  have hQm : Q ∈ smallSafe := by rw [← smallSafe_eq]; simp [hQ, hQs]
  have hcnt := List.all_eq_true.1 (List.all_eq_true.1 chk4 P hPm) Q hQm
  simp only [beq_eq_false_iff_ne.2 hne, Bool.false_or, Bool.or_eq_true, decide_eq_true_eq, beq_iff_eq] at hcnt
  have hlen : ((List.range (P * Q)).filter (sqN P Q)).length = n := by rcases hcnt with g | g <;> omega
  have hNpos : 25 ≤ N := by rw [hN]; exact Nat.mul_le_mul p5 q5
  have hSN : Nat.Coprime S N := by
    have h3 : Nat.gcd S N ∣ S ^ n % N := (Nat.dvd_mod_iff (Nat.gcd_dvd_right S N)).2 (Nat.dvd_trans (Nat.gcd_dvd_left S N) (dvd_pow_self' (by omega)))
    rw [h1] at h3
    exact Nat.dvd_one.1 h3
  have hinj : ∀ i j, i < n → j < n → i < j → S ^ i % N ≠ S ^ j % N := by
    intro i j hi hj hij he
    have e : S ^ i * 1 % N = S ^ i * S ^ (j - i) % N := by rw [Nat.mul_one, ← Nat.pow_add, he]; congr 2; omega
    have := modEq_cancel (hSN.pow_left i) e
    rw [Nat.mod_eq_of_lt (by omega)] at this
    exact hmin (j - i) (by omega) (by omega) this.symm
  have hperm : ((List.range n).map fun i => S ^ i % N).Perm ((List.range (P * Q)).filter (sqN P Q)) := by
    refine perm_of_sub (nodup_map_on List.nodup_range fun x hx y hy e => ?_) (fun x hx => ?_) (by simp [hlen])
    · simp only [List.mem_range] at hx hy
      rcases Nat.lt_trichotomy x y with g | g | g
      · exact absurd e (hinj x y hx hy g)
      · exact g
      · exact absurd e.symm (hinj y x hy hx g)
    · obtain ⟨i, hi, rfl⟩ := List.mem_map.1 hx
      have g1 : (S ^ i % N) ^ ((P - 1) / 2) % P = 1 := by
        rw [Nat.pow_mod, Nat.mod_mod_of_dvd _ dP, ← Nat.pow_mod, ← Nat.pow_mul, Nat.mul_comm]
        exact pow_mod_mul _ (by omega) eP
      have g2 : (S ^ i % N) ^ ((Q - 1) / 2) % Q = 1 := by
        rw [Nat.pow_mod, Nat.mod_mod_of_dvd _ dQ, ← Nat.pow_mod, ← Nat.pow_mul, Nat.mul_comm]
        exact pow_mod_mul _ (by omega) eQ
      simp only [List.mem_filter, List.mem_range, sqN, g1, g2, ← hN]
      exact ⟨Nat.mod_lt _ (by omega), rfl⟩
  have hyA : y ∈ (List.range (P * Q)).filter (sqN P Q) := by
    simp only [List.mem_filter, List.mem_range, sqN, euler hP hPs y1, euler hQ hQs y2, ← hN]
    exact ⟨hy, rfl⟩
  obtain ⟨i, hi, e⟩ := List.mem_map.1 (hperm.mem_iff.2 hyA)
  exact ⟨i, List.mem_range.1 hi, e⟩
end Go.Num
