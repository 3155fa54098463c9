/- SessionNil: no table, and one that nobody made, answer as they should. -/
import Derived.Test.YtlfnfgoocliecaaPLx21
import Derived.Test.YtlfnfgoocliecaaStSessionNil
namespace Go.Proofs.Ytlfnfgoocliecaa.PL
theorem sessionNil_pure : SessionNil_Pure := by
  unfold SessionNil_Pure
  intros
  exact ⟨0, rfl⟩
end Go.Proofs.Ytlfnfgoocliecaa.PL
namespace Go.Proofs.Ytlfnfgoocliecaa.Pure
theorem SessionNil : Go.Proofs.Ytlfnfgoocliecaa.PL.SessionNil_Pure := Go.Proofs.Ytlfnfgoocliecaa.PL.sessionNil_pure
end Go.Proofs.Ytlfnfgoocliecaa.Pure
