/- The pure statement of the law SessionPlays: numbers and lists alone. -/
import Derived.Test.YtlfnfgoocliecaaPNx4
namespace Go.Proofs.Ytlfnfgoocliecaa.PN
open Go.RowKit Go.Proofs.YtlfnfgoocliecaaW.PrintWords Go.Proofs.YtlfnfgoocliecaaW.PrintLast Go.Proofs.YtlfnfgoocliecaaW.PrintMore
def SessionPlays_Pure : Prop := ∀ (l0 : List (S26)) (l1 : List (S26)), l0.length * 56 ≤ 140737488351232 → (∀ z ∈ l0, (-9223372036854775808 ≤ z.f0 ∧ z.f0 ≤ 9223372036854775807) ∧ (-9223372036854775808 ≤ z.f1 ∧ z.f1 ≤ 9223372036854775807) ∧ (-9223372036854775808 ≤ z.f2.f0 ∧ z.f2.f0 ≤ 9223372036854775807) ∧ z.f2.f2.size ≤ 140737488351232 ∧ (-9223372036854775808 ≤ z.f2.f3 ∧ z.f2.f3 ≤ 9223372036854775807)) → l1.length * 56 ≤ 140737488351232 → (∀ z ∈ l1, (-9223372036854775808 ≤ z.f0 ∧ z.f0 ≤ 9223372036854775807) ∧ (-9223372036854775808 ≤ z.f1 ∧ z.f1 ≤ 9223372036854775807) ∧ (-9223372036854775808 ≤ z.f2.f0 ∧ z.f2.f0 ≤ 9223372036854775807) ∧ z.f2.f2.size ≤ 140737488351232 ∧ (-9223372036854775808 ≤ z.f2.f3 ∧ z.f2.f3 ≤ 9223372036854775807)) → ∃ k, glebelaw09_SessionPlays.f k l0 l1 = some true
end Go.Proofs.Ytlfnfgoocliecaa.PN
