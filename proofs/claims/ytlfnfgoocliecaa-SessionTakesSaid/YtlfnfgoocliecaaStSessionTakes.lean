/- The pure statement of the law SessionTakes: numbers and lists alone. -/
import Derived.Test.YtlfnfgoocliecaaPNx4
namespace Go.Proofs.Ytlfnfgoocliecaa.PN
open Go.RowKit Go.Proofs.YtlfnfgoocliecaaW.PrintWords Go.Proofs.YtlfnfgoocliecaaW.PrintLast Go.Proofs.YtlfnfgoocliecaaW.PrintMore
def SessionTakes_Pure : Prop := ∀ (l0 : List Int), l0.length * 1 ≤ 140737488351232 → (∀ z ∈ l0, (Lit.int .u8 z).wf = true) → ∃ k, glebelaw09_SessionTakes.f k l0 = some true
end Go.Proofs.Ytlfnfgoocliecaa.PN
