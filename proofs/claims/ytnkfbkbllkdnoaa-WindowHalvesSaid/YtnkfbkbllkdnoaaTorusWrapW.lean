/- Wrap, as plain numbers. -/
import Derived.Test.YtnkfbkbllkdnoaaTorusFactsW
import Derived.Test.YtnkfbkbllkdnoaaPWx3
namespace Go.Proofs.Ytnkfbkbllkdnoaa.PW
open Go.RowKit Go.Proofs.YtnkfbkbllkdnoaaW.PrintWords Go.Proofs.YtnkfbkbllkdnoaaW.PrintLast Go.Proofs.YtnkfbkbllkdnoaaW.PrintMore
set_option linter.unusedVariables false
theorem wrap_eq {K n : Int} (h : OkT K n) (x y : Int) : torus_Torus_Wrap.f K x y = some (x % n, y % n) := by
  unfold torus_Torus_Wrap.f
  rw [ok_eq, mask_eq h, decide_eq_true ⟨h.1, h.2.1⟩]
  simp only [Option.bind_some, if_true]
  rw [okT_mask h, okT_mask h]
theorem wrap_no {K : Int} (h : ¬ (1 ≤ K ∧ K ≤ 16)) (x y : Int) : torus_Torus_Wrap.f K x y = some (0, 0) := by
  unfold torus_Torus_Wrap.f
  rw [ok_eq, decide_eq_false h]
  rfl
end Go.Proofs.Ytnkfbkbllkdnoaa.PW
