/- PointPuts: any record, call and answer: looks and bytes. -/
import Derived.Test.YtiglmgmkablpkaaPKx5
import Derived.Test.YtiglmgmkablpkaaStPointPuts
namespace Go.Proofs.Ytiglmgmkablpkaa.PK
theorem pointPuts_pure : PointPuts_Pure := by
  unfold PointPuts_Pure
  intros
  exact ⟨0, rfl⟩
end Go.Proofs.Ytiglmgmkablpkaa.PK
namespace Go.Proofs.Ytiglmgmkablpkaa.Pure
theorem PointPuts : Go.Proofs.Ytiglmgmkablpkaa.PK.PointPuts_Pure := Go.Proofs.Ytiglmgmkablpkaa.PK.pointPuts_pure
end Go.Proofs.Ytiglmgmkablpkaa.Pure
