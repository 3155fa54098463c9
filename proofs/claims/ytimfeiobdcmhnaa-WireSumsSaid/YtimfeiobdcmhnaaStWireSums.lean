/- The pure statement of the law WireSums: numbers and lists alone. -/
import Derived.Test.YtimfeiobdcmhnaaPRx13
namespace Go.Proofs.Ytimfeiobdcmhnaa.PR
open Go.RowKit Go.Proofs.YtimfeiobdcmhnaaW.PrintWords Go.Proofs.YtimfeiobdcmhnaaW.PrintLast Go.Proofs.YtimfeiobdcmhnaaW.PrintMore
def WireSums_Pure : Prop := ∀ (l0 : List Int) (a1 : Int), l0.length * 1 ≤ 140737488351232 → (∀ z ∈ l0, (Lit.int .u8 z).wf = true) → (-9223372036854775808 ≤ a1 ∧ a1 ≤ 9223372036854775807) → ∃ k, glebelaw01_WireSums.f k l0 a1 = some true
end Go.Proofs.Ytimfeiobdcmhnaa.PR
