/- The pure statement of the law WireTurned: numbers and lists alone. -/
import Derived.Test.YtimfeiobdcmhnaaPRx17
namespace Go.Proofs.Ytimfeiobdcmhnaa.PR
open Go.RowKit Go.Proofs.YtimfeiobdcmhnaaW.PrintWords Go.Proofs.YtimfeiobdcmhnaaW.PrintLast Go.Proofs.YtimfeiobdcmhnaaW.PrintMore
def WireTurned_Pure : Prop := ∀ (a0 : Int) (l1 : List Int) (a2 : Int) (a3 : Int), (-9223372036854775808 ≤ a0 ∧ a0 ≤ 9223372036854775807) → l1.length * 1 ≤ 140737488351232 → (∀ z ∈ l1, (Lit.int .u8 z).wf = true) → (-9223372036854775808 ≤ a2 ∧ a2 ≤ 9223372036854775807) → (0 ≤ a3 ∧ a3 ≤ 4294967295) → ∃ k, glebelaw01_WireTurned.f k a0 l1 a2 a3 = some true
end Go.Proofs.Ytimfeiobdcmhnaa.PR
