/-
  FACTS about small numbers that the kernel computes. Own work.
-/
import Derived.Test.YtpihmkhmhkopdaaGreatDoorM2
set_option linter.all false
namespace Go.Num
theorem chk1 : ((List.range 13108).all fun n => !isMR n || (List.range' 2 113).all fun d => n % d != 0 || n == d) = true := by decide +kernel
theorem chk2 : ((List.range 13108).all fun n => !isSafe n || n == 5 || jac (n - 1) n != 1) = true := by decide +kernel
theorem chk3 : ((List.range 402).all fun n => !isSafe n || (List.range n).all fun x => jac x n != 1 || x ^ ((n - 1) / 2) % n == 1) = true := by decide +kernel
def smallSafe : List Nat := [5, 7, 11, 23, 47, 59, 83, 107, 167, 179, 227, 263, 347, 359, 383]
theorem smallSafe_eq : ((List.range 402).filter isSafe) = smallSafe := by decide +kernel
def sqN (P Q y : Nat) : Bool := y ^ ((P - 1) / 2) % P == 1 && y ^ ((Q - 1) / 2) % Q == 1
theorem chk4 : (smallSafe.all fun P => smallSafe.all fun Q => P == Q || decide (401 < (P - 1) / 2 * ((Q - 1) / 2)) || ((List.range (P * Q)).filter (sqN P Q)).length == (P - 1) / 2 * ((Q - 1) / 2)) = true := by decide +kernel
end Go.Num
