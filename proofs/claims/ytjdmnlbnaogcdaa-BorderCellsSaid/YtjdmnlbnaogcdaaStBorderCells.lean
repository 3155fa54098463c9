/- The pure statement of the law BorderCells: numbers and lists alone. -/
import Derived.Test.YtjdmnlbnaogcdaaPCx6
namespace Go.Proofs.Ytjdmnlbnaogcdaa.PC
open Go.RowKit Go.Proofs.YtjdmnlbnaogcdaaW.PrintWords Go.Proofs.YtjdmnlbnaogcdaaW.PrintLast Go.Proofs.YtjdmnlbnaogcdaaW.PrintMore
def BorderCells_Pure : Prop := ∀ (a0 : Int) (a1_0 : Int) (a1_1 : Int) (a2_0 : Int) (a2_1 : Int), (-9223372036854775808 ≤ a0 ∧ a0 ≤ 9223372036854775807) → (-9223372036854775808 ≤ a1_0 ∧ a1_0 ≤ 9223372036854775807) → (-9223372036854775808 ≤ a1_1 ∧ a1_1 ≤ 9223372036854775807) → (-9223372036854775808 ≤ a2_0 ∧ a2_0 ≤ 9223372036854775807) → (-9223372036854775808 ≤ a2_1 ∧ a2_1 ≤ 9223372036854775807) → ∃ k, glebelaw06_BorderCells.f k a0 a1_0 a1_1 a2_0 a2_1 = some true
end Go.Proofs.Ytjdmnlbnaogcdaa.PC
