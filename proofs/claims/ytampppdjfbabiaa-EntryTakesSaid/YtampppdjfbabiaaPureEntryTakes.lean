/- EntryTakes: what is taken of any bytes. -/
import Derived.Test.YtampppdjfbabiaaPEx7
import Derived.Test.YtampppdjfbabiaaStEntryTakes
namespace Go.Proofs.Ytampppdjfbabiaa.PE
open Go.RowKit Go.Proofs.YtampppdjfbabiaaW.PrintWords Go.Proofs.YtampppdjfbabiaaW.PrintLast Go.Proofs.YtampppdjfbabiaaW.PrintMore
theorem byt_of_lits {l : List Int} (h : ∀ z ∈ l, (Lit.int .u8 z).wf = true) : ∀ z ∈ l, 0 ≤ z ∧ z < 256 := by
  intro z hz
  have h1 := h z hz
  simp only [Lit.wf, Bool.and_eq_true, decide_eq_true_eq] at h1
  have h2 : IntKind.u8.min = 0 := rfl
  have h3 : IntKind.u8.max = 255 := rfl
  omega
theorem entryTakes_pure : EntryTakes_Pure := by
  intro l0 n0 w0
  refine ⟨0, ?_⟩
  unfold glebelaw11_EntryTakes.f
  rw [if_pos (byt_of_lits w0)]
end Go.Proofs.Ytampppdjfbabiaa.PE
namespace Go.Proofs.Ytampppdjfbabiaa.Pure
theorem EntryTakes : Go.Proofs.Ytampppdjfbabiaa.PE.EntryTakes_Pure := Go.Proofs.Ytampppdjfbabiaa.PE.entryTakes_pure
end Go.Proofs.Ytampppdjfbabiaa.Pure
