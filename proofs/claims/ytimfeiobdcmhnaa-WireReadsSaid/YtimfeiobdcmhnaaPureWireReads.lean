/- WireReads: a reader does what the document says, call by call, over any bytes. -/
import Derived.Test.YtimfeiobdcmhnaaPRx41
import Derived.Test.YtimfeiobdcmhnaaStWireReads
namespace Go.Proofs.Ytimfeiobdcmhnaa.PR
open Go.RowKit Go.Proofs.YtimfeiobdcmhnaaW.PrintWords Go.Proofs.YtimfeiobdcmhnaaW.PrintLast Go.Proofs.YtimfeiobdcmhnaaW.PrintMore
theorem byt_of_lits {l : List Int} (h : ∀ z ∈ l, (Lit.int .u8 z).wf = true) : ∀ z ∈ l, 0 ≤ z ∧ z < 256 := by
  intro z hz
  have h1 := h z hz
  simp only [Lit.wf, Bool.and_eq_true, decide_eq_true_eq] at h1
  have h2 : IntKind.u8.min = 0 := rfl
  have h3 : IntKind.u8.max = 255 := rfl
  omega
theorem wireReads_pure : WireReads_Pure := by
  intro l0 l1 n0 w0 n1 w1
  refine ⟨0, ?_⟩
  unfold glebelaw01_WireReads.f
  rw [if_pos (byt_of_lits w0)]
end Go.Proofs.Ytimfeiobdcmhnaa.PR
namespace Go.Proofs.Ytimfeiobdcmhnaa.Pure
theorem WireReads : Go.Proofs.Ytimfeiobdcmhnaa.PR.WireReads_Pure := Go.Proofs.Ytimfeiobdcmhnaa.PR.wireReads_pure
end Go.Proofs.Ytimfeiobdcmhnaa.Pure
