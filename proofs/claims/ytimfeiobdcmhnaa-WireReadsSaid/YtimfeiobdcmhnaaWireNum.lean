/- Numbers as bytes: what wire.Num and the reference write. -/
import Derived.Test.YtimfeiobdcmhnaaPRx18
import Derived.Test.YtimfeiobdcmhnaaPRx19
import Derived.Test.YtimfeiobdcmhnaaPRx20
import Derived.Test.YtimfeiobdcmhnaaPRx21
namespace Go.Proofs.Ytimfeiobdcmhnaa.PR
open Go.RowKit Go.Proofs.YtimfeiobdcmhnaaW.PrintWords Go.Proofs.YtimfeiobdcmhnaaW.PrintLast Go.Proofs.YtimfeiobdcmhnaaW.PrintMore
set_option linter.unusedVariables false
theorem w64_small {x : Int} (h1 : -9223372036854775808 ≤ x) (h2 : x ≤ 9223372036854775807) : wrap64 x = x := by
  unfold wrap64
  omega
/-- A number's bytes, in at most j + 1 of them. -/
def numB : Nat → Int → List Int
  | 0, x => [x]
  | j + 1, x => if x > 127 then (128 + x % 128) :: numB j (x / 128) else [x]
theorem or_128 (x : Int) : Go.bits .or .u8 (x % 256) 128 = 128 + x % 128 := by
  have h : ∀ y : Fin 256, Go.bits .or .u8 ((y.val : Nat) : Int) 128 = 128 + ((y.val : Nat) : Int) % 128 := by decide +kernel
  have h1 : 0 ≤ x % 256 ∧ x % 256 < 256 := by omega
  have h2 := h ⟨(x % 256).toNat, by omega⟩
  dsimp only at h2
  rw [Int.toNat_of_nonneg h1.1] at h2
  rw [h2]
  omega
theorem numB_len (j : Nat) (x : Int) : (numB j x).length ≤ j + 1 := by
  induction j generalizing x with
  | zero => simp [numB]
  | succ j ih =>
    unfold numB
    split
    · have := ih (x / 128)
      simp
      omega
    · simp
theorem wnum_loop (k j : Nat) : ∀ (x : Int) (out : List Int), 0 ≤ x → x < 128 * 128 ^ j → out.length + j ≤ 1000 → wire_Num.l0 (k + 1 + j) x out = some (out ++ numB j x, 0) := by
  induction j with
  | zero =>
    intro x out h0 h1 h2
    simp only [wire_Num.l0, numB]
    simp at h1
    rw [if_neg (by omega), if_pos (by omega), Int.emod_eq_of_lt h0 (by omega)]
  | succ j ih =>
    intro x out h0 h1 h2
    show wire_Num.l0 ((k + 1 + j) + 1) _ _ = _
    simp only [wire_Num.l0, numB]
    by_cases h : x > 127
    · rw [Int.pow_succ] at h1
      rw [if_pos h, if_pos h, if_pos (by omega), or_128, ih _ _ (by omega) (by omega) (by simp; omega)]
      simp
    · rw [if_neg h, if_neg h, if_pos (by omega), Int.emod_eq_of_lt h0 (by omega)]
theorem rnum_loop (k j : Nat) : ∀ (x : Int) (out : List Int), 0 ≤ x → x ≤ 9007199254740992 → x < 128 * 128 ^ j → out.length + j ≤ 1000 → gleberef01_Num.l0 (k + 1 + j) x out = some (out ++ numB j x) := by
  induction j with
  | zero =>
    intro x out h0 hx h1 h2
    simp only [gleberef01_Num.l0, numB]
    simp at h1
    rw [if_neg (by omega), if_pos (by omega), Int.emod_eq_of_lt h0 (by omega)]
  | succ j ih =>
    intro x out h0 hx h1 h2
    show gleberef01_Num.l0 ((k + 1 + j) + 1) _ _ = _
    simp only [gleberef01_Num.l0, numB]
    by_cases h : x > 127
    · rw [Int.pow_succ] at h1
      rw [if_pos (by omega), if_pos h, if_pos (by omega), Int.tdiv_eq_ediv_of_nonneg h0, Int.tmod_eq_emod_of_nonneg h0, w64_small (x := x / 128) (by omega) (by omega), w64_small (by omega) (by omega), Int.emod_eq_of_lt (by omega) (by omega), ih _ _ (by omega) (by omega) (by omega) (by simp; omega)]
      simp
    · rw [if_neg (by omega), if_neg h, if_pos (by omega), Int.emod_eq_of_lt h0 (by omega)]
theorem wnum_yes {n : Int} (h0 : 0 ≤ n) (h1 : n ≤ 9007199254740992) (k : Nat) : wire_Num.f (k + 10) n = some (numB 8 n, 0) := by
  unfold wire_Num.f
  rw [if_neg (by omega), decide_eq_false (by omega)]
  show wire_Num.j0 ((k + 9) + 1) _ _ = _
  simp only [wire_Num.j0]
  rw [if_neg (by decide)]
  have := wnum_loop k 8 n [] h0 (by omega) (by simp)
  simpa using this
theorem wnum_no {n : Int} (h : n < 0 ∨ n > 9007199254740992) (k : Nat) : wire_Num.f (k + 1) n = some ([], 1) := by
  unfold wire_Num.f
  by_cases h0 : n < 0
  · rw [if_pos h0]
    simp [wire_Num.j0]
  · rw [if_neg h0, decide_eq_true (by omega)]
    simp [wire_Num.j0]
theorem rnum_yes {n : Int} (h0 : 0 ≤ n) (h1 : n ≤ 9007199254740992) (k : Nat) : gleberef01_Num.f (k + 10) n = some (numB 8 n) := by
  unfold gleberef01_Num.f
  rw [if_neg (by omega), decide_eq_false (by omega)]
  show gleberef01_Num.j0 ((k + 9) + 1) _ _ = _
  simp only [gleberef01_Num.j0]
  rw [if_neg (by decide)]
  have := rnum_loop k 8 n [] h0 h1 (by omega) (by simp)
  simpa using this
theorem rnum_no {n : Int} (h : n < 0 ∨ n > 9007199254740992) (k : Nat) : gleberef01_Num.f (k + 1) n = some [] := by
  unfold gleberef01_Num.f
  by_cases h0 : n < 0
  · rw [if_pos h0]
    simp [gleberef01_Num.j0]
  · rw [if_neg h0, decide_eq_true (by omega)]
    simp [gleberef01_Num.j0]
theorem wtext_yes (s : ByteArray) (h : s.size ≤ 131072) (k : Nat) : wire_Text.f (k + 10) s = some (numB 8 s.size ++ bytesOf s, 0) := by
  unfold wire_Text.f
  rw [if_neg (by omega), wnum_yes (by omega) (by omega), Option.bind_some]
  have := numB_len 8 s.size
  dsimp only
  rw [if_pos (by omega)]
theorem rtext_yes (s : ByteArray) (h : s.size ≤ 131072) (k : Nat) : gleberef01_Text.f (k + 10) s = some (numB 8 s.size ++ bytesOf s) := by
  unfold gleberef01_Text.f
  rw [rnum_yes (by omega) (by omega), Option.bind_some]
  have := numB_len 8 s.size
  rw [if_pos (by omega)]
end Go.Proofs.Ytimfeiobdcmhnaa.PR
