/- The pure statement of the law PointTakes: numbers and lists alone. -/
import Derived.Test.YtiglmgmkablpkaaPKx9
namespace Go.Proofs.Ytiglmgmkablpkaa.PK
open Go.RowKit Go.Proofs.YtiglmgmkablpkaaW.PrintWords Go.Proofs.YtiglmgmkablpkaaW.PrintLast Go.Proofs.YtiglmgmkablpkaaW.PrintMore
def PointTakes_Pure : Prop := ∀ (l0 : List Int), l0.length * 1 ≤ 140737488351232 → (∀ z ∈ l0, (Lit.int .u8 z).wf = true) → ∃ k, glebelaw07_PointTakes.f k l0 = some true
end Go.Proofs.Ytiglmgmkablpkaa.PK
