/- The pure statement of the law EntryTakes: numbers and lists alone. -/
import Derived.Test.YtampppdjfbabiaaPEx7
namespace Go.Proofs.Ytampppdjfbabiaa.PE
open Go.RowKit Go.Proofs.YtampppdjfbabiaaW.PrintWords Go.Proofs.YtampppdjfbabiaaW.PrintLast Go.Proofs.YtampppdjfbabiaaW.PrintMore
def EntryTakes_Pure : Prop := ∀ (l0 : List Int), l0.length * 1 ≤ 140737488351232 → (∀ z ∈ l0, (Lit.int .u8 z).wf = true) → ∃ k, glebelaw11_EntryTakes.f k l0 = some true
end Go.Proofs.Ytampppdjfbabiaa.PE
