/- SessionTakes: what is taken of any bytes. -/
import Derived.Test.YtlfnfgoocliecaaPNx4
import Derived.Test.YtlfnfgoocliecaaStSessionTakes
namespace Go.Proofs.Ytlfnfgoocliecaa.PN
open Go.RowKit Go.Proofs.YtlfnfgoocliecaaW.PrintWords Go.Proofs.YtlfnfgoocliecaaW.PrintLast Go.Proofs.YtlfnfgoocliecaaW.PrintMore
theorem byt_of_lits {l : List Int} (h : ∀ z ∈ l, (Lit.int .u8 z).wf = true) : ∀ z ∈ l, 0 ≤ z ∧ z < 256 := by
  intro z hz
  have h1 := h z hz
  simp only [Lit.wf, Bool.and_eq_true, decide_eq_true_eq] at h1
  have h2 : IntKind.u8.min = 0 := rfl
  have h3 : IntKind.u8.max = 255 := rfl
  omega
theorem sessionTakes_pure : SessionTakes_Pure := by
  intro l0 n0 w0
  refine ⟨0, ?_⟩
  unfold glebelaw09_SessionTakes.f
  rw [if_pos (byt_of_lits w0)]
end Go.Proofs.Ytlfnfgoocliecaa.PN
namespace Go.Proofs.Ytlfnfgoocliecaa.Pure
theorem SessionTakes : Go.Proofs.Ytlfnfgoocliecaa.PN.SessionTakes_Pure := Go.Proofs.Ytlfnfgoocliecaa.PN.sessionTakes_pure
end Go.Proofs.Ytlfnfgoocliecaa.Pure
