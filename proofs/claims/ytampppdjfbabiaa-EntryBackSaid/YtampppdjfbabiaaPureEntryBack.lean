/- EntryBack: what is put is taken as it was, and what is taken is put as the bytes that it was taken from. -/
import Derived.Test.YtampppdjfbabiaaPEx6
import Derived.Test.YtampppdjfbabiaaStEntryBack
namespace Go.Proofs.Ytampppdjfbabiaa.PE
open Go.RowKit Go.Proofs.YtampppdjfbabiaaW.PrintWords Go.Proofs.YtampppdjfbabiaaW.PrintLast Go.Proofs.YtampppdjfbabiaaW.PrintMore
theorem byt_of_lits {l : List Int} (h : ∀ z ∈ l, (Lit.int .u8 z).wf = true) : ∀ z ∈ l, 0 ≤ z ∧ z < 256 := by
  intro z hz
  have h1 := h z hz
  simp only [Lit.wf, Bool.and_eq_true, decide_eq_true_eq] at h1
  have h2 : IntKind.u8.min = 0 := rfl
  have h3 : IntKind.u8.max = 255 := rfl
  omega
theorem entryBack_pure : EntryBack_Pure := by
  intro a0 a1 a2 a3 a4 a5 a6 a7 a8 a9 a10 l0 l1 _ _ _ _ _ _ _ _ _ _ _ _ _ w0
  refine ⟨0, ?_⟩
  unfold glebelaw11_EntryBack.f
  rw [if_pos (byt_of_lits w0)]
end Go.Proofs.Ytampppdjfbabiaa.PE
namespace Go.Proofs.Ytampppdjfbabiaa.Pure
theorem EntryBack : Go.Proofs.Ytampppdjfbabiaa.PE.EntryBack_Pure := Go.Proofs.Ytampppdjfbabiaa.PE.entryBack_pure
end Go.Proofs.Ytampppdjfbabiaa.Pure
