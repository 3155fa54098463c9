/- The pure statement of the law WireNil: numbers and lists alone. -/
import Derived.Test.YtimfeiobdcmhnaaPRx32
namespace Go.Proofs.Ytimfeiobdcmhnaa.PR
open Go.RowKit Go.Proofs.YtimfeiobdcmhnaaW.PrintWords Go.Proofs.YtimfeiobdcmhnaaW.PrintLast Go.Proofs.YtimfeiobdcmhnaaW.PrintMore
def WireNil_Pure : Prop := ∀ (a0 : Int), (-9223372036854775808 ≤ a0 ∧ a0 ≤ 9223372036854775807) → ∃ k, glebelaw01_WireNil.f k a0 = some true
end Go.Proofs.Ytimfeiobdcmhnaa.PR
