/- SessionBack: a table is taken as it was put; what is taken is put as it was. -/
import Derived.Test.YtlfnfgoocliecaaPNx5
import Derived.Test.YtlfnfgoocliecaaStSessionBack
namespace Go.Proofs.Ytlfnfgoocliecaa.PN
open Go.RowKit Go.Proofs.YtlfnfgoocliecaaW.PrintWords Go.Proofs.YtlfnfgoocliecaaW.PrintLast Go.Proofs.YtlfnfgoocliecaaW.PrintMore
theorem byt_of_lits {l : List Int} (h : ∀ z ∈ l, (Lit.int .u8 z).wf = true) : ∀ z ∈ l, 0 ≤ z ∧ z < 256 := by
  intro z hz
  have h1 := h z hz
  simp only [Lit.wf, Bool.and_eq_true, decide_eq_true_eq] at h1
  have h2 : IntKind.u8.min = 0 := rfl
  have h3 : IntKind.u8.max = 255 := rfl
  omega
theorem sessionBack_pure : SessionBack_Pure := by
  intro l0 l1 n0 n1 w0 w1
  refine ⟨0, ?_⟩
  unfold glebelaw09_SessionBack.f
  rw [if_pos (byt_of_lits w1)]
end Go.Proofs.Ytlfnfgoocliecaa.PN
namespace Go.Proofs.Ytlfnfgoocliecaa.Pure
theorem SessionBack : Go.Proofs.Ytlfnfgoocliecaa.PN.SessionBack_Pure := Go.Proofs.Ytlfnfgoocliecaa.PN.sessionBack_pure
end Go.Proofs.Ytlfnfgoocliecaa.Pure
