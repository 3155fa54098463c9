/- WireFrames: any content's frame, any bytes as one: as the document says. -/
import Derived.Test.YtimfeiobdcmhnaaWireRef
import Derived.Test.YtimfeiobdcmhnaaWireUnframe
import Derived.Test.YtimfeiobdcmhnaaPRx16
import Derived.Test.YtimfeiobdcmhnaaStWireFrames
namespace Go.Proofs.Ytimfeiobdcmhnaa.PR
open Go.RowKit Go.Proofs.YtimfeiobdcmhnaaW.PrintWords Go.Proofs.YtimfeiobdcmhnaaW.PrintLast Go.Proofs.YtimfeiobdcmhnaaW.PrintMore
theorem byt_lits {l : List Int} (h : ∀ z ∈ l, (Lit.int .u8 z).wf = true) : Byt l := by
  intro z hz
  have h1 := h z hz
  simp only [Lit.wf, Bool.and_eq_true, decide_eq_true_eq] at h1
  have h2 : IntKind.u8.min = 0 := rfl
  have h3 : IntKind.u8.max = 255 := rfl
  omega
theorem wireFrames_pure : WireFrames_Pure := by
  intro a0 l1 l2 h0 n1 w1 n2 w2
  have B1 := byt_lits w1
  have B2 := byt_lits w2
  by_cases c : l1.length > 9000 ∨ l2.length > 9000
  · refine ⟨0, ?_⟩
    unfold glebelaw01_WireFrames.f
    rw [if_pos c]
  · obtain ⟨K, hK⟩ : ∃ K : Nat, 100000 ≤ K := ⟨100000, Nat.le_refl _⟩
    refine ⟨K, ?_⟩
    unfold glebelaw01_WireFrames.f
    have hu : wire_Unframe.f K l2 = some (unf l2) := by
      obtain ⟨m, rfl⟩ : ∃ m, K = m + 7 := ⟨K - 7, by omega⟩
      exact wunf B2 (by omega) m
    have hv : gleberef01_Unframe.f K l2 = some (unf l2) := runf B2 (by omega) K (by omega)
    rw [if_neg c]
    by_cases fine : 0 ≤ a0 ∧ a0 ≤ 255
    · obtain ⟨kind, rfl⟩ := Int.eq_ofNat_of_zero_le fine.1
      have hf : wire_Frame.f K (kind : Int) l1 = some (frameB kind l1, 0) := by
        obtain ⟨m, rfl⟩ : ∃ m, K = m + 6 := ⟨K - 6, by omega⟩
        exact wframe_yes kind l1 fine (by omega) m
      have hg := rframe kind (by omega) B1 (by omega) K (by omega)
      rw [hf, Option.bind_some, if_pos fine, hg, Option.bind_some, hu, Option.bind_some, hv, Option.bind_some, if_pos ⟨by rw [if_pos fine], rfl⟩]
    · have hf : wire_Frame.f K a0 l1 = some ([], 1) := by
        obtain ⟨m, rfl⟩ : ∃ m, K = m + 1 := ⟨K - 1, by omega⟩
        exact wframe_no a0 l1 fine m
      rw [hf, Option.bind_some, if_neg fine, Option.bind_some, hu, Option.bind_some, hv, Option.bind_some, if_pos ⟨by rw [if_neg fine], rfl⟩]
end Go.Proofs.Ytimfeiobdcmhnaa.PR
namespace Go.Proofs.Ytimfeiobdcmhnaa.Pure
theorem WireFrames : Go.Proofs.Ytimfeiobdcmhnaa.PR.WireFrames_Pure := Go.Proofs.Ytimfeiobdcmhnaa.PR.wireFrames_pure
end Go.Proofs.Ytimfeiobdcmhnaa.Pure
