/- The pure statement of the law WindowCuts: numbers and lists alone. -/
import Derived.Test.YtnkfbkbllkdnoaaPWx12
namespace Go.Proofs.Ytnkfbkbllkdnoaa.PW
open Go.RowKit Go.Proofs.YtnkfbkbllkdnoaaW.PrintWords Go.Proofs.YtnkfbkbllkdnoaaW.PrintLast Go.Proofs.YtnkfbkbllkdnoaaW.PrintMore
def WindowCuts_Pure : Prop := ∀ (a0 : Int) (a1_0 : Int) (a1_1 : Int) (a1_2 : Int) (a1_3 : Int) (a2_0 : Int) (a2_1 : Int) (a3_0 : Int) (a3_1 : Int), (-9223372036854775808 ≤ a0 ∧ a0 ≤ 9223372036854775807) → (-9223372036854775808 ≤ a1_0 ∧ a1_0 ≤ 9223372036854775807) → (-9223372036854775808 ≤ a1_1 ∧ a1_1 ≤ 9223372036854775807) → (-9223372036854775808 ≤ a1_2 ∧ a1_2 ≤ 9223372036854775807) → (-9223372036854775808 ≤ a1_3 ∧ a1_3 ≤ 9223372036854775807) → (-9223372036854775808 ≤ a2_0 ∧ a2_0 ≤ 9223372036854775807) → (-9223372036854775808 ≤ a2_1 ∧ a2_1 ≤ 9223372036854775807) → (-9223372036854775808 ≤ a3_0 ∧ a3_0 ≤ 9223372036854775807) → (-9223372036854775808 ≤ a3_1 ∧ a3_1 ≤ 9223372036854775807) → ∃ k, glebelaw04_WindowCuts.f k a0 a1_0 a1_1 a1_2 a1_3 a2_0 a2_1 a3_0 a3_1 = some true
end Go.Proofs.Ytnkfbkbllkdnoaa.PW
