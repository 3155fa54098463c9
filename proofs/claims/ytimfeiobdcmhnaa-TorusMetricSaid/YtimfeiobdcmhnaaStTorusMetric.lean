/- The pure statement of the law TorusMetric: numbers and lists alone. -/
import Derived.Test.YtimfeiobdcmhnaaPTx6
namespace Go.Proofs.Ytimfeiobdcmhnaa.PT
open Go.RowKit Go.Proofs.YtimfeiobdcmhnaaW.PrintWords Go.Proofs.YtimfeiobdcmhnaaW.PrintLast Go.Proofs.YtimfeiobdcmhnaaW.PrintMore
def TorusMetric_Pure : Prop := ∀ (a0 : Int) (a1_0 : Int) (a1_1 : Int) (a2_0 : Int) (a2_1 : Int) (a3_0 : Int) (a3_1 : Int) (a4 : Int) (a5 : Int), (-9223372036854775808 ≤ a0 ∧ a0 ≤ 9223372036854775807) → (-9223372036854775808 ≤ a1_0 ∧ a1_0 ≤ 9223372036854775807) → (-9223372036854775808 ≤ a1_1 ∧ a1_1 ≤ 9223372036854775807) → (-9223372036854775808 ≤ a2_0 ∧ a2_0 ≤ 9223372036854775807) → (-9223372036854775808 ≤ a2_1 ∧ a2_1 ≤ 9223372036854775807) → (-9223372036854775808 ≤ a3_0 ∧ a3_0 ≤ 9223372036854775807) → (-9223372036854775808 ≤ a3_1 ∧ a3_1 ≤ 9223372036854775807) → (-9223372036854775808 ≤ a4 ∧ a4 ≤ 9223372036854775807) → (-9223372036854775808 ≤ a5 ∧ a5 ≤ 9223372036854775807) → ∃ k, glebelaw02_TorusMetric.f k a0 a1_0 a1_1 a2_0 a2_1 a3_0 a3_1 a4 a5 = some true
end Go.Proofs.Ytimfeiobdcmhnaa.PT
