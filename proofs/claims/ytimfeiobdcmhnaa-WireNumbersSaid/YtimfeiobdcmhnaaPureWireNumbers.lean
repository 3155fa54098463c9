/- WireNumbers: any number's and any text's bytes are what the reference says. -/
import Derived.Test.YtimfeiobdcmhnaaWireNum
import Derived.Test.YtimfeiobdcmhnaaPRx22
import Derived.Test.YtimfeiobdcmhnaaStWireNumbers
namespace Go.Proofs.Ytimfeiobdcmhnaa.PR
open Go.RowKit Go.Proofs.YtimfeiobdcmhnaaW.PrintWords Go.Proofs.YtimfeiobdcmhnaaW.PrintLast Go.Proofs.YtimfeiobdcmhnaaW.PrintMore
theorem wireNumbers_pure : WireNumbers_Pure := by
  intro n s _ _
  refine ⟨10, ?_⟩
  unfold glebelaw01_WireNumbers.f
  by_cases hs : s.size > 9000
  · rw [if_pos hs]
  · rw [if_neg hs]
    by_cases h : 0 ≤ n ∧ n ≤ 9007199254740992
    · rw [wnum_yes h.1 h.2 0, wtext_yes s (by omega) 0, rnum_yes h.1 h.2 0, rtext_yes s (by omega) 0]
      simp only [Option.bind_some]
      rw [if_pos ⟨trivial, trivial, .inl ⟨trivial, h⟩⟩]
    · rw [wnum_no (by omega) 9, wtext_yes s (by omega) 0, rnum_no (by omega) 9, rtext_yes s (by omega) 0]
      simp only [Option.bind_some]
      rw [if_pos ⟨trivial, trivial, .inr (by by_cases h0 : n < 0; exact .inl ⟨trivial, h0⟩; exact .inr ⟨trivial, by omega, by omega⟩)⟩]
end Go.Proofs.Ytimfeiobdcmhnaa.PR
namespace Go.Proofs.Ytimfeiobdcmhnaa.Pure
theorem WireNumbers : Go.Proofs.Ytimfeiobdcmhnaa.PR.WireNumbers_Pure := Go.Proofs.Ytimfeiobdcmhnaa.PR.wireNumbers_pure
end Go.Proofs.Ytimfeiobdcmhnaa.Pure
