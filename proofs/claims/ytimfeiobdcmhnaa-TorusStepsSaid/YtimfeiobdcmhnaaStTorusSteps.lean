/- The pure statement of the law TorusSteps: numbers and lists alone. -/
import Derived.Test.YtimfeiobdcmhnaaPTx5
namespace Go.Proofs.Ytimfeiobdcmhnaa.PT
open Go.RowKit Go.Proofs.YtimfeiobdcmhnaaW.PrintWords Go.Proofs.YtimfeiobdcmhnaaW.PrintLast Go.Proofs.YtimfeiobdcmhnaaW.PrintMore
def TorusSteps_Pure : Prop := ∀ (a0 : Int) (a1_0 : Int) (a1_1 : Int) (a2_0 : Int) (a2_1 : Int), (-9223372036854775808 ≤ a0 ∧ a0 ≤ 9223372036854775807) → (-9223372036854775808 ≤ a1_0 ∧ a1_0 ≤ 9223372036854775807) → (-9223372036854775808 ≤ a1_1 ∧ a1_1 ≤ 9223372036854775807) → (-9223372036854775808 ≤ a2_0 ∧ a2_0 ≤ 9223372036854775807) → (-9223372036854775808 ≤ a2_1 ∧ a2_1 ≤ 9223372036854775807) → ∃ k, glebelaw02_TorusSteps.f k a0 a1_0 a1_1 a2_0 a2_1 = some true
end Go.Proofs.Ytimfeiobdcmhnaa.PT
