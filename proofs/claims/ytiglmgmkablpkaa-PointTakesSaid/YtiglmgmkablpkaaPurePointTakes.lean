/- PointTakes: what is taken of any bytes. -/
import Derived.Test.YtiglmgmkablpkaaPKx8
import Derived.Test.YtiglmgmkablpkaaStPointTakes
namespace Go.Proofs.Ytiglmgmkablpkaa.PK
open Go.RowKit Go.Proofs.YtiglmgmkablpkaaW.PrintWords Go.Proofs.YtiglmgmkablpkaaW.PrintLast Go.Proofs.YtiglmgmkablpkaaW.PrintMore
theorem byt_of_lits {l : List Int} (h : ∀ z ∈ l, (Lit.int .u8 z).wf = true) : ∀ z ∈ l, 0 ≤ z ∧ z < 256 := by
  intro z hz
  have h1 := h z hz
  simp only [Lit.wf, Bool.and_eq_true, decide_eq_true_eq] at h1
  have h2 : IntKind.u8.min = 0 := rfl
  have h3 : IntKind.u8.max = 255 := rfl
  omega
theorem pointTakes_pure : PointTakes_Pure := by
  intro l0 n0 w0
  refine ⟨0, ?_⟩
  unfold glebelaw07_PointTakes.f
  rw [if_pos (byt_of_lits w0)]
end Go.Proofs.Ytiglmgmkablpkaa.PK
namespace Go.Proofs.Ytiglmgmkablpkaa.Pure
theorem PointTakes : Go.Proofs.Ytiglmgmkablpkaa.PK.PointTakes_Pure := Go.Proofs.Ytiglmgmkablpkaa.PK.pointTakes_pure
end Go.Proofs.Ytiglmgmkablpkaa.Pure
