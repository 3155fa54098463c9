/- WireNil: no reader, and one that nobody made. -/
import Derived.Test.YtimfeiobdcmhnaaPRx32
import Derived.Test.YtimfeiobdcmhnaaStWireNil
namespace Go.Proofs.Ytimfeiobdcmhnaa.PR
theorem wireNil_pure : WireNil_Pure := by
  intro most _
  exact ⟨0, rfl⟩
end Go.Proofs.Ytimfeiobdcmhnaa.PR
namespace Go.Proofs.Ytimfeiobdcmhnaa.Pure
theorem WireNil : Go.Proofs.Ytimfeiobdcmhnaa.PR.WireNil_Pure := Go.Proofs.Ytimfeiobdcmhnaa.PR.wireNil_pure
end Go.Proofs.Ytimfeiobdcmhnaa.Pure
