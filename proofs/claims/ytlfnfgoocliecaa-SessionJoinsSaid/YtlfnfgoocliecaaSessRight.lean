/- RightAns: the program's and the document's say the same. -/
import Derived.Test.YtlfnfgoocliecaaPJx8
import Derived.Test.YtlfnfgoocliecaaPJx6
import Derived.Test.YtlfnfgoocliecaaPJx7
import Derived.Test.YtlfnfgoocliecaaPJx16
namespace Go.Proofs.Ytlfnfgoocliecaa.PJ
open Go.RowKit Go.Proofs.YtlfnfgoocliecaaW.PrintWords Go.Proofs.YtlfnfgoocliecaaW.PrintLast Go.Proofs.YtlfnfgoocliecaaW.PrintMore
theorem from_eq (a b c : Int) : point_from.f a b c = some (decide (a ≤ b ∧ b ≤ c)) := by
  unfold point_from.f
  by_cases h : b ≥ a
  · rw [if_pos h]
    congr 1
    simp only [decide_eq_decide]
    omega
  · rw [if_neg h, decide_eq_false (by omega)]
theorem all_four : ∀ a b c d : Bool, point_all.f 100 [a, b, c, d] = some (a && b && c && d) := by decide +kernel
theorem right_both (e : Int) (f : Bool) (v : ByteArray) (n : Int) : ∃ b, point_RightAns.f 100 e f v n = some b ∧ gleberef07_RightAns.f e f v n = some b := by
  unfold point_RightAns.f gleberef07_RightAns.f
  simp only [from_eq, all_four, Option.bind_some]
  by_cases a1 : 0 ≤ e
  · by_cases a2 : e ≤ 255
    · by_cases a3 : (v.size : Int) ≤ 32
      · by_cases a4 : 0 ≤ n
        · by_cases a5 : n ≤ 1099511627776
          · cases f <;> by_cases a6 : v.toList = [] <;> simp [a1, a2, a3, a4, a5, a6]
          · cases f <;> by_cases a6 : v.toList = [] <;> simp [a1, a2, a3, a4, a5, a6]
        · cases f <;> by_cases a6 : v.toList = [] <;> simp [a1, a2, a3, a4, a6]
      · cases f <;> by_cases a6 : v.toList = [] <;> simp [a1, a2, a3, a6]
    · cases f <;> by_cases a6 : v.toList = [] <;> simp [a1, a2, a6]
  · cases f <;> by_cases a6 : v.toList = [] <;> simp [a1, a6]
end Go.Proofs.Ytlfnfgoocliecaa.PJ
