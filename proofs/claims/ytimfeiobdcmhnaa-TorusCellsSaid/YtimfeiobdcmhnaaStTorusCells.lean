/- The pure statement of the law TorusCells: numbers and lists alone. -/
import Derived.Test.YtimfeiobdcmhnaaPUx30
namespace Go.Proofs.Ytimfeiobdcmhnaa.PU
open Go.RowKit Go.Proofs.YtimfeiobdcmhnaaW.PrintWords Go.Proofs.YtimfeiobdcmhnaaW.PrintLast Go.Proofs.YtimfeiobdcmhnaaW.PrintMore
def TorusCells_Pure : Prop := ∀ (a0 : Int) (a1_0 : Int) (a1_1 : Int) (a2 : Int) (a3 : Int) (a4 : Int), (-9223372036854775808 ≤ a0 ∧ a0 ≤ 9223372036854775807) → (-9223372036854775808 ≤ a1_0 ∧ a1_0 ≤ 9223372036854775807) → (-9223372036854775808 ≤ a1_1 ∧ a1_1 ≤ 9223372036854775807) → (-9223372036854775808 ≤ a2 ∧ a2 ≤ 9223372036854775807) → (-9223372036854775808 ≤ a3 ∧ a3 ≤ 9223372036854775807) → (-9223372036854775808 ≤ a4 ∧ a4 ≤ 9223372036854775807) → ∃ k, glebelaw02_TorusCells.f k a0 a1_0 a1_1 a2 a3 a4 = some true
end Go.Proofs.Ytimfeiobdcmhnaa.PU
