/- WireBack: numbers and texts are read as they were written, and so is a frame; a number that is read is written just so. -/
import Derived.Test.YtimfeiobdcmhnaaPRx42
import Derived.Test.YtimfeiobdcmhnaaStWireBack
namespace Go.Proofs.Ytimfeiobdcmhnaa.PR
open Go.RowKit Go.Proofs.YtimfeiobdcmhnaaW.PrintWords Go.Proofs.YtimfeiobdcmhnaaW.PrintLast Go.Proofs.YtimfeiobdcmhnaaW.PrintMore
theorem byt_lits_ {l : List Int} (h : ∀ z ∈ l, (Lit.int .u8 z).wf = true) : ∀ z ∈ l, 0 ≤ z ∧ z < 256 := by
  intro z hz
  have h1 := h z hz
  simp only [Lit.wf, Bool.and_eq_true, decide_eq_true_eq] at h1
  have h2 : IntKind.u8.min = 0 := rfl
  have h3 : IntKind.u8.max = 255 := rfl
  omega
theorem wireBack_pure : WireBack_Pure := by
  intro l0 a1 l2 n0 w0 n1 n2 w2
  refine ⟨0, ?_⟩
  unfold glebelaw01_WireBack.f
  rw [if_pos (byt_lits_ w2)]
end Go.Proofs.Ytimfeiobdcmhnaa.PR
namespace Go.Proofs.Ytimfeiobdcmhnaa.Pure
theorem WireBack : Go.Proofs.Ytimfeiobdcmhnaa.PR.WireBack_Pure := Go.Proofs.Ytimfeiobdcmhnaa.PR.wireBack_pure
end Go.Proofs.Ytimfeiobdcmhnaa.Pure
