/- WireSizes: what is just as large as it may be is framed and told; what is larger is refused. -/
import Derived.Test.YtimfeiobdcmhnaaWireFrame
import Derived.Test.YtimfeiobdcmhnaaPRx23
import Derived.Test.YtimfeiobdcmhnaaStWireSizes
namespace Go.Proofs.Ytimfeiobdcmhnaa.PR
open Go.RowKit Go.Proofs.YtimfeiobdcmhnaaW.PrintWords Go.Proofs.YtimfeiobdcmhnaaW.PrintLast Go.Proofs.YtimfeiobdcmhnaaW.PrintMore
theorem wtext_big (s : ByteArray) (h : 131072 < s.size) (k : Nat) : wire_Text.f k s = some ([], 6) := by
  unfold wire_Text.f
  rw [if_pos (by omega)]
theorem str_size (l : List Int) : (strOfNums l).size = l.length := by simp [strOfNums, ByteArray.size]
theorem zeros_len (n : Int) : (zeros n).length = n.toNat := by simp [zeros]
theorem wireSizes_pure : WireSizes_Pure := by
  intro over
  refine ⟨10, ?_⟩
  unfold glebelaw01_WireSizes.f
  cases over
  · have hl := zeros_len 131072
    simp only [Bool.false_eq_true, if_false]
    generalize zeros 131072 = l at *
    rw [wframe_yes 1 l (by decide) (by omega) 4, Option.bind_some, wtext_yes (strOfNums l) (by rw [str_size]; omega) 0, Option.bind_some]
    rw [if_pos ⟨rfl, rfl⟩]
  · have hl := zeros_len 131073
    simp only [if_true]
    generalize zeros 131073 = l at *
    rw [wframe_big 1 l (by decide) (by omega) 9, Option.bind_some, wtext_big (strOfNums l) (by rw [str_size]; omega), Option.bind_some]
    rw [if_pos ⟨rfl, rfl⟩]
end Go.Proofs.Ytimfeiobdcmhnaa.PR
namespace Go.Proofs.Ytimfeiobdcmhnaa.Pure
theorem WireSizes : Go.Proofs.Ytimfeiobdcmhnaa.PR.WireSizes_Pure := Go.Proofs.Ytimfeiobdcmhnaa.PR.wireSizes_pure
end Go.Proofs.Ytimfeiobdcmhnaa.Pure
