/- Powers of two. -/
import Derived.Test.YtnkfbkbllkdnoaaTorusFactsW
namespace Go.Proofs.Ytnkfbkbllkdnoaa.PW
open Go.RowKit Go.Proofs.YtnkfbkbllkdnoaaW.PrintWords Go.Proofs.YtnkfbkbllkdnoaaW.PrintLast Go.Proofs.YtnkfbkbllkdnoaaW.PrintMore
set_option linter.unusedVariables false
theorem two_pow_bd (i : Nat) (h : i ≤ 16) : (1 : Int) ≤ 2 ^ i ∧ (2 : Int) ^ i ≤ 65536 := by
  have h1 : (2 : Int) ^ i = ((2 ^ i : Nat) : Int) := by simp
  have h2 : 2 ^ i ≤ 2 ^ 16 := Nat.pow_le_pow_right (by decide) h
  have h3 : 0 < 2 ^ i := Nat.two_pow_pos i
  omega
end Go.Proofs.Ytnkfbkbllkdnoaa.PW
