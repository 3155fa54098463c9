/- 'sum'. -/
import Derived.Test.YtnkfbkbllkdnoaaWindowOn
import Derived.Test.YtnkfbkbllkdnoaaPWx7
namespace Go.Proofs.Ytnkfbkbllkdnoaa.PW
open Go.RowKit Go.Proofs.YtnkfbkbllkdnoaaW.PrintWords Go.Proofs.YtnkfbkbllkdnoaaW.PrintLast Go.Proofs.YtnkfbkbllkdnoaaW.PrintMore
set_option linter.unusedVariables false
theorem sum_loop (k : Nat) (xs : List S29) : ∀ (acc : Int) (pre : List S29), pre.length + xs.length ≤ 7 → acc = sm pre →
    glebelaw04_sum.l0 (k + 1 + xs.length) (pre ++ xs) acc (pre.length : Int) = some (sm (pre ++ xs)) := by
  induction xs with
  | nil =>
    intro acc pre h1 h2
    simp only [glebelaw04_sum.l0, List.append_nil, List.length_nil, Nat.add_zero, Int.lt_irrefl, if_false]
    rw [h2]
  | cons r xs ih =>
    intro acc pre h1 h2
    simp only [List.length_cons] at h1
    show glebelaw04_sum.l0 ((k + 1 + xs.length) + 1) _ _ _ = _
    simp only [glebelaw04_sum.l0]
    rw [if_pos (by simp; omega), if_pos (by omega), if_pos (by omega), rd29_at, area_eq]
    simp only [Option.bind_some]
    have b1 := sm_bd pre
    have b2 := ar_bd r
    rw [wrap_inc _ (by omega), wrap64_small (by omega) (by omega)]
    have hl : pre ++ r :: xs = (pre ++ [r]) ++ xs := by simp
    have hn : ((pre.length + 1 : Nat) : Int) = ((pre ++ [r]).length : Int) := by simp
    rw [hn, hl]
    exact ih _ _ (by simp; omega) (by rw [sm_append, h2]; simp [sm])
theorem sum_eq (k : Nat) (xs : List S29) (h : xs.length ≤ 7) : glebelaw04_sum.f (k + 1 + xs.length) xs = some (sm xs) := by
  unfold glebelaw04_sum.f
  simpa using sum_loop k xs 0 [] (by simpa using h) rfl
end Go.Proofs.Ytnkfbkbllkdnoaa.PW
