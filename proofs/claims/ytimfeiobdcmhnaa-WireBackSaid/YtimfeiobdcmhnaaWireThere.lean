/- A frame there and back. -/
import Derived.Test.YtimfeiobdcmhnaaWireHead
import Derived.Test.YtimfeiobdcmhnaaWireBurst
import Derived.Test.YtimfeiobdcmhnaaWireRead
namespace Go.Proofs.Ytimfeiobdcmhnaa.PR
open Go.RowKit Go.Proofs.YtimfeiobdcmhnaaW.PrintWords Go.Proofs.YtimfeiobdcmhnaaW.PrintLast Go.Proofs.YtimfeiobdcmhnaaW.PrintMore
set_option linter.unusedVariables false
theorem numB_byt : ∀ (j : Nat) (x : Int), 0 ≤ x → x < 128 * 128 ^ j → Byt (numB j x)
  | 0, x, h0, h1 => by
    intro z hz
    simp [numB] at hz
    omega
  | j + 1, x, h0, h1 => by
    rw [numB_eq]
    by_cases q : x > 127
    · rw [if_pos q]
      intro z hz
      rcases List.mem_cons.mp hz with rfl | hz
      · omega
      · refine numB_byt j (x / 128) (by omega) ?_ z hz
        rw [Int.pow_succ] at h1
        omega
    · rw [if_neg q]
      intro z hz
      simp at hz
      omega
theorem bytesOf_byt (s : ByteArray) : Byt (bytesOf s) := by
  intro z hz
  unfold bytesOf at hz
  obtain ⟨b, _, rfl⟩ := List.mem_map.mp hz
  have := b.toNat_lt
  omega
theorem byt_app {x y : List Int} (hx : Byt x) (hy : Byt y) : Byt (x ++ y) := fun z hz => (List.mem_append.mp hz).elim (hx z) (hy z)
theorem numB8_byt {x : Int} (h0 : 0 ≤ x) (h1 : x ≤ 9007199254740992) : Byt (numB 8 x) := numB_byt 8 x h0 (by omega)
theorem wcat_byt : ∀ l : List Int, Byt (wcat l)
  | [] => fun z hz => by cases hz
  | z :: l => by
    rw [wcat]
    refine byt_app ?_ (wcat_byt l)
    split
    · rename_i h
      exact numB8_byt h.1 h.2
    · intro y hy
      cases hy
theorem frameB_byt (kind : Nat) {C : List Int} (hC : Byt C) (hn : C.length ≤ 131072) : Byt (frameB kind C) := by
  rw [frameB_eq kind C hC (by omega)]
  exact byt_app (hdB_byt kind C.length (by omega)) (byt_app hC (sumB_byt _))
theorem unf_frameB (kind : Nat) (hk : kind < 256) {C : List Int} (hC : Byt C) (hn : C.length ≤ 131072) : unf (frameB kind C) = ((kind : Int), C, 0) := by
  rw [frameB_eq kind C hC (by omega), unf_frame kind C.length _ hn hk (by simp [sumB]), List.take_left, List.drop_left, if_pos rfl]
end Go.Proofs.Ytimfeiobdcmhnaa.PR
