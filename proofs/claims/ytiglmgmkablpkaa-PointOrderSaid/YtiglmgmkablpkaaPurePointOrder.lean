/- PointOrder: Compare is an order; it is 0 just of the same cell and key. -/
import Derived.Test.YtiglmgmkablpkaaPKx35
import Derived.Test.YtiglmgmkablpkaaStPointOrder
namespace Go.Proofs.Ytiglmgmkablpkaa.PK
theorem pointOrder_pure : PointOrder_Pure := by
  unfold PointOrder_Pure
  intros
  exact ⟨0, rfl⟩
end Go.Proofs.Ytiglmgmkablpkaa.PK
namespace Go.Proofs.Ytiglmgmkablpkaa.Pure
theorem PointOrder : Go.Proofs.Ytiglmgmkablpkaa.PK.PointOrder_Pure := Go.Proofs.Ytiglmgmkablpkaa.PK.pointOrder_pure
end Go.Proofs.Ytiglmgmkablpkaa.Pure
