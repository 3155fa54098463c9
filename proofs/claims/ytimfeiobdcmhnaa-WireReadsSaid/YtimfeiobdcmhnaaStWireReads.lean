/- The pure statement of the law WireReads: numbers and lists alone. -/
import Derived.Test.YtimfeiobdcmhnaaPRx41
namespace Go.Proofs.Ytimfeiobdcmhnaa.PR
open Go.RowKit Go.Proofs.YtimfeiobdcmhnaaW.PrintWords Go.Proofs.YtimfeiobdcmhnaaW.PrintLast Go.Proofs.YtimfeiobdcmhnaaW.PrintMore
def WireReads_Pure : Prop := ∀ (l0 : List Int) (l1 : List (Int × Int)), l0.length * 1 ≤ 140737488351232 → (∀ z ∈ l0, (Lit.int .u8 z).wf = true) → l1.length * 16 ≤ 140737488351232 → (∀ z ∈ l1, (-9223372036854775808 ≤ z.1 ∧ z.1 ≤ 9223372036854775807) ∧ (-9223372036854775808 ≤ z.2 ∧ z.2 ≤ 9223372036854775807)) → ∃ k, glebelaw01_WireReads.f k l0 l1 = some true
end Go.Proofs.Ytimfeiobdcmhnaa.PR
