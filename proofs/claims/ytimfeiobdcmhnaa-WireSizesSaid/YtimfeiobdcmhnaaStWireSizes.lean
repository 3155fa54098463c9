/- The pure statement of the law WireSizes: numbers and lists alone. -/
import Derived.Test.YtimfeiobdcmhnaaPRx23
namespace Go.Proofs.Ytimfeiobdcmhnaa.PR
open Go.RowKit Go.Proofs.YtimfeiobdcmhnaaW.PrintWords Go.Proofs.YtimfeiobdcmhnaaW.PrintLast Go.Proofs.YtimfeiobdcmhnaaW.PrintMore
def WireSizes_Pure : Prop := ∀ (a0 : Bool), ∃ k, glebelaw01_WireSizes.f k a0 = some true
end Go.Proofs.Ytimfeiobdcmhnaa.PR
