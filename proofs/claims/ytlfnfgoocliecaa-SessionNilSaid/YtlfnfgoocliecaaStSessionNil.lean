/- The pure statement of the law SessionNil: numbers and lists alone. -/
import Derived.Test.YtlfnfgoocliecaaPLx21
namespace Go.Proofs.Ytlfnfgoocliecaa.PL
open Go.RowKit Go.Proofs.YtlfnfgoocliecaaW.PrintWords Go.Proofs.YtlfnfgoocliecaaW.PrintLast Go.Proofs.YtlfnfgoocliecaaW.PrintMore
def SessionNil_Pure : Prop := ∀ (a0_0 : Int) (a0_1 : Int) (a0_2 : Int) (a0_3 : Bool) (a0_4 : ByteArray) (a0_5 : Int), (-9223372036854775808 ≤ a0_0 ∧ a0_0 ≤ 9223372036854775807) → (-9223372036854775808 ≤ a0_1 ∧ a0_1 ≤ 9223372036854775807) → (-9223372036854775808 ≤ a0_2 ∧ a0_2 ≤ 9223372036854775807) → a0_4.size ≤ 140737488351232 → (-9223372036854775808 ≤ a0_5 ∧ a0_5 ≤ 9223372036854775807) → ∃ k, glebelaw09_SessionNil.f k a0_0 a0_1 a0_2 a0_3 a0_4 a0_5 = some true
end Go.Proofs.Ytlfnfgoocliecaa.PL
