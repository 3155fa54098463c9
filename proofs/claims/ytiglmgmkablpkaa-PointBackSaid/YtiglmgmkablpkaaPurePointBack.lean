/- PointBack: what is put is taken as it was; what is taken is put as it was. -/
import Derived.Test.YtiglmgmkablpkaaPKx7
import Derived.Test.YtiglmgmkablpkaaStPointBack
namespace Go.Proofs.Ytiglmgmkablpkaa.PK
open Go.RowKit Go.Proofs.YtiglmgmkablpkaaW.PrintWords Go.Proofs.YtiglmgmkablpkaaW.PrintLast Go.Proofs.YtiglmgmkablpkaaW.PrintMore
theorem byt_of_lits {l : List Int} (h : ∀ z ∈ l, (Lit.int .u8 z).wf = true) : ∀ z ∈ l, 0 ≤ z ∧ z < 256 := by
  intro z hz
  have h1 := h z hz
  simp only [Lit.wf, Bool.and_eq_true, decide_eq_true_eq] at h1
  have h2 : IntKind.u8.min = 0 := rfl
  have h3 : IntKind.u8.max = 255 := rfl
  omega
theorem pointBack_pure : PointBack_Pure := by
  unfold PointBack_Pure
  intros
  refine ⟨0, ?_⟩
  unfold glebelaw07_PointBack.f
  rw [if_pos (byt_of_lits (by assumption))]
end Go.Proofs.Ytiglmgmkablpkaa.PK
namespace Go.Proofs.Ytiglmgmkablpkaa.Pure
theorem PointBack : Go.Proofs.Ytiglmgmkablpkaa.PK.PointBack_Pure := Go.Proofs.Ytiglmgmkablpkaa.PK.pointBack_pure
end Go.Proofs.Ytiglmgmkablpkaa.Pure
