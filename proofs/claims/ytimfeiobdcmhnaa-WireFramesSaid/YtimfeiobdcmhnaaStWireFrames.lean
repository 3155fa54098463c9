/- The pure statement of the law WireFrames: numbers and lists alone. -/
import Derived.Test.YtimfeiobdcmhnaaPRx16
namespace Go.Proofs.Ytimfeiobdcmhnaa.PR
open Go.RowKit Go.Proofs.YtimfeiobdcmhnaaW.PrintWords Go.Proofs.YtimfeiobdcmhnaaW.PrintLast Go.Proofs.YtimfeiobdcmhnaaW.PrintMore
def WireFrames_Pure : Prop := ∀ (a0 : Int) (l1 : List Int) (l2 : List Int), (-9223372036854775808 ≤ a0 ∧ a0 ≤ 9223372036854775807) → l1.length * 1 ≤ 140737488351232 → (∀ z ∈ l1, (Lit.int .u8 z).wf = true) → l2.length * 1 ≤ 140737488351232 → (∀ z ∈ l2, (Lit.int .u8 z).wf = true) → ∃ k, glebelaw01_WireFrames.f k a0 l1 l2 = some true
end Go.Proofs.Ytimfeiobdcmhnaa.PR
