/- The pure statement of the law WireNumbers: numbers and lists alone. -/
import Derived.Test.YtimfeiobdcmhnaaPRx22
namespace Go.Proofs.Ytimfeiobdcmhnaa.PR
open Go.RowKit Go.Proofs.YtimfeiobdcmhnaaW.PrintWords Go.Proofs.YtimfeiobdcmhnaaW.PrintLast Go.Proofs.YtimfeiobdcmhnaaW.PrintMore
def WireNumbers_Pure : Prop := ∀ (a0 : Int) (a1 : ByteArray), (-9223372036854775808 ≤ a0 ∧ a0 ≤ 9223372036854775807) → a1.size ≤ 140737488351232 → ∃ k, glebelaw01_WireNumbers.f k a0 a1 = some true
end Go.Proofs.Ytimfeiobdcmhnaa.PR
