/-
  THE PROGRAM'S TEST FOR PRIMES AND ITS SYMBOL, plain. Own work.
-/
import Derived.Test.YtpihmkhmhkopdaaGreatDoorM1
set_option linter.all false
namespace Go.Num

def bases12 : List Nat := [2, 3, 5, 7, 11, 13, 17, 19, 23, 29, 31, 37]
/-- Trailing zero bits. -/
def tzF : Nat → Nat → Nat
  | 0, _ => 0
  | f + 1, n => if n % 2 = 1 then 0 else tzF f (n / 2) + 1
def sqs : Nat → Nat → Nat → Bool
  | 0, _, _ => false
  | k + 1, x, n => x * x % n == n - 1 || sqs k (x * x % n) n
def strong (n s d a : Nat) : Bool := (a % n) ^ d % n == 1 || (a % n) ^ d % n == n - 1 || sqs (s - 1) ((a % n) ^ d % n) n
/-- The test of the program. -/
def isMR (n : Nat) : Bool :=
  if n < 2 then false else
  match bases12.find? fun p => n % p == 0 with
  | some p => n == p
  | none => bases12.all fun a => strong n (tzF 64 (n - 1)) ((n - 1) / 2 ^ tzF 64 (n - 1)) a
def flip8 (n : Nat) (s : Int) : Int := if n % 8 = 3 ∨ n % 8 = 5 then -s else s
def flip4 (a n : Nat) (s : Int) : Int := if a % 4 = 3 ∧ n % 4 = 3 then -s else s
def jacF : Nat → Nat → Nat → Int → Int
  | 0, _, _, _ => 0
  | f + 1, a, n, s => if a = 0 then (if n = 1 then s else 0) else if a % 2 = 0 then jacF f (a / 2) n (flip8 n s) else jacF f (n % a) a (flip4 a n s)
def jac (a n : Nat) : Int := jacF (a % n + 1) (a % n) n 1
theorem jacF_step {f g a n : Nat} {s : Int} (hf : a < f) (hg : a < g) : jacF f a n s = jacF g a n s := by
  induction f generalizing g a n s with
  | zero => omega
  | succ f ih =>
    obtain ⟨g, rfl⟩ : ∃ k, g = k + 1 := ⟨g - 1, by omega⟩
    simp only [jacF]
    by_cases h0 : a = 0
    · simp [h0]
    · rw [if_neg h0, if_neg h0]
      split
      · exact ih (by omega) (by omega)
      · have : n % a < a := Nat.mod_lt _ (by omega)
        exact ih (by omega) (by omega)
theorem jac_mod (a n : Nat) : jac (a % n) n = jac a n := by simp [jac]
def isSafe (n : Nat) : Bool := isMR n && isMR ((n - 1) / 2)

end Go.Num
