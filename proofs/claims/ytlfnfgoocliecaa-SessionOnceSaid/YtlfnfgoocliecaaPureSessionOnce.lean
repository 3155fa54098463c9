/- SessionOnce: behind a note its Seq is told again, greater ones are fresh, lesser ones are past, and another client's stay as they were. -/
import Derived.Test.YtlfnfgoocliecaaPSx14
import Derived.Test.YtlfnfgoocliecaaStSessionOnce
namespace Go.Proofs.Ytlfnfgoocliecaa.PS
theorem sessionOnce_pure : SessionOnce_Pure := by
  unfold SessionOnce_Pure
  intros
  exact ⟨0, rfl⟩
end Go.Proofs.Ytlfnfgoocliecaa.PS
namespace Go.Proofs.Ytlfnfgoocliecaa.Pure
theorem SessionOnce : Go.Proofs.Ytlfnfgoocliecaa.PS.SessionOnce_Pure := Go.Proofs.Ytlfnfgoocliecaa.PS.sessionOnce_pure
end Go.Proofs.Ytlfnfgoocliecaa.Pure
