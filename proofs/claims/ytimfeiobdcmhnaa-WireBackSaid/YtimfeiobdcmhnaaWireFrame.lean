/- Frames: what wire.low and wire.Frame write. -/
import Derived.Test.YtimfeiobdcmhnaaWireNum
import Derived.Test.YtimfeiobdcmhnaaPRx3
import Derived.Test.YtimfeiobdcmhnaaPRx2
import Derived.Test.YtimfeiobdcmhnaaPRx4
namespace Go.Proofs.Ytimfeiobdcmhnaa.PR
open Go.RowKit Go.Proofs.YtimfeiobdcmhnaaW.PrintWords Go.Proofs.YtimfeiobdcmhnaaW.PrintLast Go.Proofs.YtimfeiobdcmhnaaW.PrintMore
set_option linter.unusedVariables false
theorem shr_div (x : Int) (n : Nat) (h : n ≤ 64) : shr .i64 x (n : Int) = x / 2 ^ n := by
  unfold shr
  rw [show min (n : Int).toNat IntKind.i64.bits = n from Nat.min_eq_left (by show n ≤ 64; omega)]
theorem low_step (k : Nat) (out : List Int) (x n i : Int) (h0 : 0 ≤ i ∧ i < n ∧ n ≤ 8) (hl : out.length ≤ 140000000) :
    wire_low.l0 (k + 1) out x n i = wire_low.l0 k (out ++ [x / 2 ^ (8 * i).toNat % 256]) x n (i + 1) := by
  simp only [wire_low.l0]
  rw [if_pos h0.2.1, w64_small (x := 8 * i) (by omega) (by omega), if_pos (by omega), if_pos (by omega), w64_small (by omega) (by omega)]
  have := shr_div x (8 * i).toNat (by omega)
  rw [Int.toNat_of_nonneg (by omega)] at this
  rw [this]
theorem low_end (k : Nat) (out : List Int) (x n : Int) : wire_low.l0 (k + 1) out x n n = some out := by
  simp only [wire_low.l0]
  rw [if_neg (by omega)]
theorem low3 (k : Nat) (out : List Int) (x : Int) (hl : out.length ≤ 130000000) : wire_low.f (k + 4) out x 3 = some (out ++ [x % 256, x / 256 % 256, x / 65536 % 256]) := by
  unfold wire_low.f
  rw [low_step _ _ _ _ _ (by omega) (by omega), low_step _ _ _ _ _ (by omega) (by simp; omega), low_step _ _ _ _ _ (by omega) (by simp; omega)]
  show wire_low.l0 (k + 1) _ x 3 3 = _
  rw [low_end]
  simp
theorem low4 (k : Nat) (out : List Int) (x : Int) (hl : out.length ≤ 130000000) : wire_low.f (k + 5) out x 4 = some (out ++ [x % 256, x / 256 % 256, x / 65536 % 256, x / 16777216 % 256]) := by
  unfold wire_low.f
  rw [low_step _ _ _ _ _ (by omega) (by omega), low_step _ _ _ _ _ (by omega) (by simp; omega), low_step _ _ _ _ _ (by omega) (by simp; omega), low_step _ _ _ _ _ (by omega) (by simp; omega)]
  show wire_low.l0 (k + 1) _ x 4 4 = _
  rw [low_end]
  simp
/-- A sum's four bytes. -/
def sumB (x : Int) : List Int := [x % 256, x / 256 % 256, x / 65536 % 256, x / 16777216 % 256]
/-- The sum, as a number. -/
def sumI (l : List Int) : Int := Go.bits .xor .u32 IntKind.u32.max (crcOf l)
theorem wsum_eq (l : List Int) : wire_Sum.f l = some (sumI l) := rfl
def headB (kind : Int) (b : List Int) : List Int := [3, kind % 256, (b.length : Int) % 256, (b.length : Int) / 256 % 256, (b.length : Int) / 65536 % 256] ++ b
def frameB (kind : Int) (b : List Int) : List Int := headB kind b ++ sumB (sumI (headB kind b))
theorem headB_len (kind : Int) (b : List Int) : (headB kind b).length = b.length + 5 := by simp [headB]
theorem frameB_len (kind : Int) (b : List Int) : (frameB kind b).length = b.length + 9 := by simp [frameB, headB_len, sumB]
theorem wframe_yes (kind : Int) (b : List Int) (h : 0 ≤ kind ∧ kind ≤ 255) (hb : b.length ≤ 131072) (k : Nat) : wire_Frame.f (k + 6) kind b = some (frameB kind b, 0) := by
  unfold wire_Frame.f
  rw [if_neg (by omega), decide_eq_false (by omega)]
  show wire_Frame.j0 ((k + 5) + 1) _ _ _ = _
  simp only [wire_Frame.j0]
  rw [if_neg (by decide), if_neg (by omega), show k + 5 = (k + 1) + 4 from rfl, low3 _ _ _ (by simp), Option.bind_some, if_pos (by simp; omega), Option.bind_some, wsum_eq, Option.bind_some, show k + 1 + 4 = k + 5 from rfl, low4 _ _ _ (by simp; omega), Option.bind_some]
  rfl
theorem wframe_big (kind : Int) (b : List Int) (h : 0 ≤ kind ∧ kind ≤ 255) (hb : 131072 < b.length) (k : Nat) : wire_Frame.f (k + 1) kind b = some ([], 6) := by
  unfold wire_Frame.f
  rw [if_neg (by omega), decide_eq_false (by omega)]
  simp only [wire_Frame.j0]
  rw [if_neg (by decide), if_pos (by omega)]
theorem wframe_no (kind : Int) (b : List Int) (h : ¬ (0 ≤ kind ∧ kind ≤ 255)) (k : Nat) : wire_Frame.f (k + 1) kind b = some ([], 1) := by
  unfold wire_Frame.f
  by_cases h0 : kind < 0
  · rw [if_pos h0]
    simp [wire_Frame.j0]
  · rw [if_neg h0, decide_eq_true (by omega)]
    simp [wire_Frame.j0]
end Go.Proofs.Ytimfeiobdcmhnaa.PR
