/- The pure statement of the law WireBack: numbers and lists alone. -/
import Derived.Test.YtimfeiobdcmhnaaPRx42
namespace Go.Proofs.Ytimfeiobdcmhnaa.PR
open Go.RowKit Go.Proofs.YtimfeiobdcmhnaaW.PrintWords Go.Proofs.YtimfeiobdcmhnaaW.PrintLast Go.Proofs.YtimfeiobdcmhnaaW.PrintMore
def WireBack_Pure : Prop := ∀ (l0 : List Int) (a1 : ByteArray) (l2 : List Int), l0.length * 8 ≤ 140737488351232 → (∀ z ∈ l0, (Lit.int .i64 z).wf = true) → a1.size ≤ 140737488351232 → l2.length * 1 ≤ 140737488351232 → (∀ z ∈ l2, (Lit.int .u8 z).wf = true) → ∃ k, glebelaw01_WireBack.f k l0 a1 l2 = some true
end Go.Proofs.Ytimfeiobdcmhnaa.PR
