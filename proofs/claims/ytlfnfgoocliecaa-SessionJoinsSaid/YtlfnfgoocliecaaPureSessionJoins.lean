/- SessionJoins: three tables put together tell the same whichever two come first; each client's is one of theirs, and none greater. -/
import Derived.Test.YtlfnfgoocliecaaPJx22
import Derived.Test.YtlfnfgoocliecaaStSessionJoins
namespace Go.Proofs.Ytlfnfgoocliecaa.PJ
theorem sessionJoins_pure : SessionJoins_Pure := by
  unfold SessionJoins_Pure
  intros
  exact ⟨0, rfl⟩
end Go.Proofs.Ytlfnfgoocliecaa.PJ
namespace Go.Proofs.Ytlfnfgoocliecaa.Pure
theorem SessionJoins : Go.Proofs.Ytlfnfgoocliecaa.PJ.SessionJoins_Pure := Go.Proofs.Ytlfnfgoocliecaa.PJ.sessionJoins_pure
end Go.Proofs.Ytlfnfgoocliecaa.Pure
