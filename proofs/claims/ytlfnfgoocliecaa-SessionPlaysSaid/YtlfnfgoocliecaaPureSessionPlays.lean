/- SessionPlays: a table does and tells what the document says. -/
import Derived.Test.YtlfnfgoocliecaaPNx4
import Derived.Test.YtlfnfgoocliecaaStSessionPlays
namespace Go.Proofs.Ytlfnfgoocliecaa.PN
theorem sessionPlays_pure : SessionPlays_Pure := by
  unfold SessionPlays_Pure
  intros
  exact ⟨0, rfl⟩
end Go.Proofs.Ytlfnfgoocliecaa.PN
namespace Go.Proofs.Ytlfnfgoocliecaa.Pure
theorem SessionPlays : Go.Proofs.Ytlfnfgoocliecaa.PN.SessionPlays_Pure := Go.Proofs.Ytlfnfgoocliecaa.PN.sessionPlays_pure
end Go.Proofs.Ytlfnfgoocliecaa.Pure
