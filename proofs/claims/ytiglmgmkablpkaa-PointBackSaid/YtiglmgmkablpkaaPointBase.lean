/- RightRec, RightOp, RightAns: the program's and the document's say the same. -/
import Derived.Test.YtiglmgmkablpkaaPKx1
import Derived.Test.YtiglmgmkablpkaaPKx4
import Derived.Test.YtiglmgmkablpkaaPKx3
namespace Go.Proofs.Ytiglmgmkablpkaa.PK
open Go.RowKit Go.Proofs.YtiglmgmkablpkaaW.PrintWords Go.Proofs.YtiglmgmkablpkaaW.PrintLast Go.Proofs.YtiglmgmkablpkaaW.PrintMore
set_option linter.unusedVariables false
set_option linter.unusedSimpArgs false
theorem w64_small {x : Int} (h1 : -9223372036854775808 ≤ x) (h2 : x ≤ 9223372036854775807) : wrap64 x = x := by
  unfold wrap64
  omega
/-- A number's bytes, in at most j + 1 of them. -/
def numB : Nat → Int → List Int
  | 0, x => [x]
  | j + 1, x => if x > 127 then (128 + x % 128) :: numB j (x / 128) else [x]
theorem or_128 (x : Int) : Go.bits .or .u8 (x % 256) 128 = 128 + x % 128 := by
  have h : ∀ y : Fin 256, Go.bits .or .u8 ((y.val : Nat) : Int) 128 = 128 + ((y.val : Nat) : Int) % 128 := by decide +kernel
  have h1 : 0 ≤ x % 256 ∧ x % 256 < 256 := by omega
  have h2 := h ⟨(x % 256).toNat, by omega⟩
  dsimp only at h2
  rw [Int.toNat_of_nonneg h1.1] at h2
  rw [h2]
  omega
theorem numB_len (j : Nat) (x : Int) : (numB j x).length ≤ j + 1 := by
  induction j generalizing x with
  | zero => simp [numB]
  | succ j ih =>
    unfold numB
    split
    · have := ih (x / 128)
      simp
      omega
    · simp
theorem wnum_loop (k j : Nat) : ∀ (x : Int) (out : List Int), 0 ≤ x → x < 128 * 128 ^ j → out.length + j ≤ 1000 → wire_Num.l0 (k + 1 + j) x out = some (out ++ numB j x, 0) := by
  induction j with
  | zero =>
    intro x out h0 h1 h2
    simp only [wire_Num.l0, numB]
    simp at h1
    rw [if_neg (by omega), if_pos (by omega), Int.emod_eq_of_lt h0 (by omega)]
  | succ j ih =>
    intro x out h0 h1 h2
    show wire_Num.l0 ((k + 1 + j) + 1) _ _ = _
    simp only [wire_Num.l0, numB]
    by_cases h : x > 127
    · rw [Int.pow_succ] at h1
      rw [if_pos h, if_pos h, if_pos (by omega), or_128, ih _ _ (by omega) (by omega) (by simp; omega)]
      simp
    · rw [if_neg h, if_neg h, if_pos (by omega), Int.emod_eq_of_lt h0 (by omega)]
theorem rnum_loop (k j : Nat) : ∀ (x : Int) (out : List Int), 0 ≤ x → x ≤ 9007199254740992 → x < 128 * 128 ^ j → out.length + j ≤ 1000 → gleberef01_Num.l0 (k + 1 + j) x out = some (out ++ numB j x) := by
  induction j with
  | zero =>
    intro x out h0 hx h1 h2
    simp only [gleberef01_Num.l0, numB]
    simp at h1
    rw [if_neg (by omega), if_pos (by omega), Int.emod_eq_of_lt h0 (by omega)]
  | succ j ih =>
    intro x out h0 hx h1 h2
    show gleberef01_Num.l0 ((k + 1 + j) + 1) _ _ = _
    simp only [gleberef01_Num.l0, numB]
    by_cases h : x > 127
    · rw [Int.pow_succ] at h1
      rw [if_pos (by omega), if_pos h, if_pos (by omega), Int.tdiv_eq_ediv_of_nonneg h0, Int.tmod_eq_emod_of_nonneg h0, w64_small (x := x / 128) (by omega) (by omega), w64_small (by omega) (by omega), Int.emod_eq_of_lt (by omega) (by omega), ih _ _ (by omega) (by omega) (by omega) (by simp; omega)]
      simp
    · rw [if_neg (by omega), if_neg h, if_pos (by omega), Int.emod_eq_of_lt h0 (by omega)]
theorem wnum_yes {n : Int} (h0 : 0 ≤ n) (h1 : n ≤ 9007199254740992) (k : Nat) : wire_Num.f (k + 10) n = some (numB 8 n, 0) := by
  unfold wire_Num.f
  rw [if_neg (by omega), decide_eq_false (by omega)]
  show wire_Num.j0 ((k + 9) + 1) _ _ = _
  simp only [wire_Num.j0]
  rw [if_neg (by decide)]
  have := wnum_loop k 8 n [] h0 (by omega) (by simp)
  simpa using this
theorem wnum_no {n : Int} (h : n < 0 ∨ n > 9007199254740992) (k : Nat) : wire_Num.f (k + 1) n = some ([], 1) := by
  unfold wire_Num.f
  by_cases h0 : n < 0
  · rw [if_pos h0]
    simp [wire_Num.j0]
  · rw [if_neg h0, decide_eq_true (by omega)]
    simp [wire_Num.j0]
theorem rnum_yes {n : Int} (h0 : 0 ≤ n) (h1 : n ≤ 9007199254740992) (k : Nat) : gleberef01_Num.f (k + 10) n = some (numB 8 n) := by
  unfold gleberef01_Num.f
  rw [if_neg (by omega), decide_eq_false (by omega)]
  show gleberef01_Num.j0 ((k + 9) + 1) _ _ = _
  simp only [gleberef01_Num.j0]
  rw [if_neg (by decide)]
  have := rnum_loop k 8 n [] h0 h1 (by omega) (by simp)
  simpa using this
theorem rnum_no {n : Int} (h : n < 0 ∨ n > 9007199254740992) (k : Nat) : gleberef01_Num.f (k + 1) n = some [] := by
  unfold gleberef01_Num.f
  by_cases h0 : n < 0
  · rw [if_pos h0]
    simp [gleberef01_Num.j0]
  · rw [if_neg h0, decide_eq_true (by omega)]
    simp [gleberef01_Num.j0]
theorem wtext_yes (s : ByteArray) (h : s.size ≤ 131072) (k : Nat) : wire_Text.f (k + 10) s = some (numB 8 s.size ++ bytesOf s, 0) := by
  unfold wire_Text.f
  rw [if_neg (by omega), wnum_yes (by omega) (by omega), Option.bind_some]
  have := numB_len 8 s.size
  dsimp only
  rw [if_pos (by omega)]
theorem rtext_yes (s : ByteArray) (h : s.size ≤ 131072) (k : Nat) : gleberef01_Text.f (k + 10) s = some (numB 8 s.size ++ bytesOf s) := by
  unfold gleberef01_Text.f
  rw [rnum_yes (by omega) (by omega), Option.bind_some]
  have := numB_len 8 s.size
  rw [if_pos (by omega)]
end Go.Proofs.Ytiglmgmkablpkaa.PK
namespace Go.Proofs.Ytiglmgmkablpkaa.PK
open Go.RowKit Go.Proofs.YtiglmgmkablpkaaW.PrintWords Go.Proofs.YtiglmgmkablpkaaW.PrintLast Go.Proofs.YtiglmgmkablpkaaW.PrintMore
set_option linter.unusedVariables false
set_option linter.unusedSimpArgs false
theorem from_eq (a b c : Int) : point_from.f a b c = some (decide (a ≤ b) && decide (b ≤ c)) := by
  unfold point_from.f
  by_cases h : b ≥ a
  · rw [if_pos h, decide_eq_true h, Bool.true_and]
  · rw [if_neg h, decide_eq_false h, Bool.false_and]
theorem cell_eq (x y : Int) : point_cell.f x y = some (decide (0 ≤ x) && decide (x ≤ 65535) && (decide (0 ≤ y) && decide (y ≤ 65535))) := by
  unfold point_cell.f
  rw [from_eq, from_eq]
  simp only [Option.bind_some]
  cases (decide (0 ≤ x) && decide (x ≤ 65535))
  · simp
  · simp
theorem rcell_eq (x y : Int) : gleberef07_cell.f x y = some (decide (0 ≤ x) && decide (x ≤ 65535) && (decide (0 ≤ y) && decide (y ≤ 65535))) := by
  unfold gleberef07_cell.f
  have e1 : (x < 65536) = (x ≤ 65535) := propext ⟨fun h => by omega, fun h => by omega⟩
  have e2 : (y < 65536) = (y ≤ 65535) := propext ⟨fun h => by omega, fun h => by omega⟩
  simp only [e1, e2]
  by_cases a1 : 0 ≤ x
  · by_cases a2 : x ≤ 65535
    · by_cases a3 : 0 ≤ y <;> simp [a1, a2, a3]
    · simp [a1, a2]
  · simp [a1]
theorem all_four : ∀ a b c d : Bool, point_all.f 100 [a, b, c, d] = some (a && b && c && d) := by decide +kernel
theorem all_seven : ∀ a b c d e f g : Bool, point_all.f 100 [a, b, c, d, e, f, g] = some (a && b && c && d && e && f && g) := by decide +kernel
theorem right_rec (px py : Int) (key val : ByteArray) (ver : Int) : ∃ b, point_RightRec.f 100 px py key val ver = some b ∧ gleberef07_RightRec.f px py key val ver = some b ∧ (b = true → 0 ≤ px ∧ px ≤ 65535 ∧ 0 ≤ py ∧ py ≤ 65535 ∧ (key.size : Int) ≤ 16 ∧ (val.size : Int) ≤ 32 ∧ 1 ≤ ver ∧ ver ≤ 1099511627776) := by
  unfold point_RightRec.f gleberef07_RightRec.f
  simp only [from_eq, cell_eq, rcell_eq, all_four, Option.bind_some, ge_iff_le]
  by_cases a0 : 0 ≤ px
  rotate_left
  · simp only [a0, decide_true, decide_false, Bool.and_true, Bool.true_and, Bool.and_false, Bool.false_and, if_true, if_false, Bool.false_eq_true]; exact ⟨_, rfl, rfl, by simp⟩
  by_cases a1 : px ≤ 65535
  rotate_left
  · simp only [a0, a1, decide_true, decide_false, Bool.and_true, Bool.true_and, Bool.and_false, Bool.false_and, if_true, if_false, Bool.false_eq_true]; exact ⟨_, rfl, rfl, by simp⟩
  by_cases a2 : 0 ≤ py
  rotate_left
  · simp only [a0, a1, a2, decide_true, decide_false, Bool.and_true, Bool.true_and, Bool.and_false, Bool.false_and, if_true, if_false, Bool.false_eq_true]; exact ⟨_, rfl, rfl, by simp⟩
  by_cases a3 : py ≤ 65535
  rotate_left
  · simp only [a0, a1, a2, a3, decide_true, decide_false, Bool.and_true, Bool.true_and, Bool.and_false, Bool.false_and, if_true, if_false, Bool.false_eq_true]; exact ⟨_, rfl, rfl, by simp⟩
  by_cases a4 : 1 ≤ (key.size : Int)
  rotate_left
  · simp only [a0, a1, a2, a3, a4, decide_true, decide_false, Bool.and_true, Bool.true_and, Bool.and_false, Bool.false_and, if_true, if_false, Bool.false_eq_true]; exact ⟨_, rfl, rfl, by simp⟩
  by_cases a5 : (key.size : Int) ≤ 16
  rotate_left
  · simp only [a0, a1, a2, a3, a4, a5, decide_true, decide_false, Bool.and_true, Bool.true_and, Bool.and_false, Bool.false_and, if_true, if_false, Bool.false_eq_true]; exact ⟨_, rfl, rfl, by simp⟩
  by_cases a6 : (val.size : Int) ≤ 32
  rotate_left
  · simp only [a0, a1, a2, a3, a4, a5, a6, decide_true, decide_false, Bool.and_true, Bool.true_and, Bool.and_false, Bool.false_and, if_true, if_false, Bool.false_eq_true]; exact ⟨_, rfl, rfl, by simp⟩
  by_cases a7 : 1 ≤ ver
  rotate_left
  · simp only [a0, a1, a2, a3, a4, a5, a6, a7, decide_true, decide_false, Bool.and_true, Bool.true_and, Bool.and_false, Bool.false_and, if_true, if_false, Bool.false_eq_true]; exact ⟨_, rfl, rfl, by simp⟩
  by_cases a8 : ver ≤ 1099511627776
  rotate_left
  · simp only [a0, a1, a2, a3, a4, a5, a6, a7, a8, decide_true, decide_false, Bool.and_true, Bool.true_and, Bool.and_false, Bool.false_and, if_true, if_false, Bool.false_eq_true]; exact ⟨_, rfl, rfl, by simp⟩
  simp only [a0, a1, a2, a3, a4, a5, a6, a7, a8, decide_true, decide_false, Bool.and_true, Bool.true_and, Bool.and_false, Bool.false_and, if_true, if_false, Bool.false_eq_true]; exact ⟨_, rfl, rfl, by simp⟩
theorem right_op (kd px py : Int) (key val : ByteArray) (cli seq : Int) : ∃ b, point_RightOp.f 100 kd px py key val cli seq = some b ∧ gleberef07_RightOp.f kd px py key val cli seq = some b ∧ (b = true → 1 ≤ kd ∧ kd ≤ 3 ∧ 0 ≤ px ∧ px ≤ 65535 ∧ 0 ≤ py ∧ py ≤ 65535 ∧ (key.size : Int) ≤ 16 ∧ (val.size : Int) ≤ 32 ∧ 0 ≤ cli ∧ cli ≤ 7 ∧ 1 ≤ seq ∧ seq ≤ 1099511627776) := by
  unfold point_RightOp.f gleberef07_RightOp.f
  have e1 : (cli < 8) = (cli ≤ 7) := propext ⟨fun h => by omega, fun h => by omega⟩
  obtain ⟨q, hq⟩ : ∃ q, (val.toList == ([] : List UInt8)) = q := ⟨_, rfl⟩
  have hq2 : (val.toList = ([] : List UInt8)) = (q = true) := by rw [← hq]; simp
  obtain ⟨p, hp⟩ : ∃ p, (kd == 2) = p := ⟨_, rfl⟩
  have hp2 : (kd = 2) = (p = true) := by rw [← hp]; simp
  simp only [from_eq, cell_eq, rcell_eq, all_seven, Option.bind_some, ge_iff_le, e1, hq, hq2, hp2]
  clear hp hp2 hq hq2 e1
  cases p <;> cases q <;> simp only [if_true, if_false, Bool.false_eq_true]
  all_goals
    by_cases a0 : 1 ≤ kd
    rotate_left
    · (simp only [a0, decide_true, decide_false, Bool.and_true, Bool.true_and, Bool.and_false, Bool.false_and, if_true, if_false, Bool.false_eq_true]; exact ⟨_, rfl, rfl, by simp⟩)
    by_cases a1 : kd ≤ 3
    rotate_left
    · (simp only [a0, a1, decide_true, decide_false, Bool.and_true, Bool.true_and, Bool.and_false, Bool.false_and, if_true, if_false, Bool.false_eq_true]; exact ⟨_, rfl, rfl, by simp⟩)
    by_cases a2 : 0 ≤ px
    rotate_left
    · (simp only [a0, a1, a2, decide_true, decide_false, Bool.and_true, Bool.true_and, Bool.and_false, Bool.false_and, if_true, if_false, Bool.false_eq_true]; exact ⟨_, rfl, rfl, by simp⟩)
    by_cases a3 : px ≤ 65535
    rotate_left
    · (simp only [a0, a1, a2, a3, decide_true, decide_false, Bool.and_true, Bool.true_and, Bool.and_false, Bool.false_and, if_true, if_false, Bool.false_eq_true]; exact ⟨_, rfl, rfl, by simp⟩)
    by_cases a4 : 0 ≤ py
    rotate_left
    · (simp only [a0, a1, a2, a3, a4, decide_true, decide_false, Bool.and_true, Bool.true_and, Bool.and_false, Bool.false_and, if_true, if_false, Bool.false_eq_true]; exact ⟨_, rfl, rfl, by simp⟩)
    by_cases a5 : py ≤ 65535
    rotate_left
    · (simp only [a0, a1, a2, a3, a4, a5, decide_true, decide_false, Bool.and_true, Bool.true_and, Bool.and_false, Bool.false_and, if_true, if_false, Bool.false_eq_true]; exact ⟨_, rfl, rfl, by simp⟩)
    by_cases a6 : 1 ≤ (key.size : Int)
    rotate_left
    · (simp only [a0, a1, a2, a3, a4, a5, a6, decide_true, decide_false, Bool.and_true, Bool.true_and, Bool.and_false, Bool.false_and, if_true, if_false, Bool.false_eq_true]; exact ⟨_, rfl, rfl, by simp⟩)
    by_cases a7 : (key.size : Int) ≤ 16
    rotate_left
    · (simp only [a0, a1, a2, a3, a4, a5, a6, a7, decide_true, decide_false, Bool.and_true, Bool.true_and, Bool.and_false, Bool.false_and, if_true, if_false, Bool.false_eq_true]; exact ⟨_, rfl, rfl, by simp⟩)
    by_cases a8 : (val.size : Int) ≤ 32
    rotate_left
    · (simp only [a0, a1, a2, a3, a4, a5, a6, a7, a8, decide_true, decide_false, Bool.and_true, Bool.true_and, Bool.and_false, Bool.false_and, if_true, if_false, Bool.false_eq_true]; exact ⟨_, rfl, rfl, by simp⟩)
    by_cases a9 : 0 ≤ cli
    rotate_left
    · (simp only [a0, a1, a2, a3, a4, a5, a6, a7, a8, a9, decide_true, decide_false, Bool.and_true, Bool.true_and, Bool.and_false, Bool.false_and, if_true, if_false, Bool.false_eq_true]; exact ⟨_, rfl, rfl, by simp⟩)
    by_cases a10 : cli ≤ 7
    rotate_left
    · (simp only [a0, a1, a2, a3, a4, a5, a6, a7, a8, a9, a10, decide_true, decide_false, Bool.and_true, Bool.true_and, Bool.and_false, Bool.false_and, if_true, if_false, Bool.false_eq_true]; exact ⟨_, rfl, rfl, by simp⟩)
    by_cases a11 : 1 ≤ seq
    rotate_left
    · (simp only [a0, a1, a2, a3, a4, a5, a6, a7, a8, a9, a10, a11, decide_true, decide_false, Bool.and_true, Bool.true_and, Bool.and_false, Bool.false_and, if_true, if_false, Bool.false_eq_true]; exact ⟨_, rfl, rfl, by simp⟩)
    by_cases a12 : seq ≤ 1099511627776
    rotate_left
    · (simp only [a0, a1, a2, a3, a4, a5, a6, a7, a8, a9, a10, a11, a12, decide_true, decide_false, Bool.and_true, Bool.true_and, Bool.and_false, Bool.false_and, if_true, if_false, Bool.false_eq_true]; exact ⟨_, rfl, rfl, by simp⟩)
    (simp only [a0, a1, a2, a3, a4, a5, a6, a7, a8, a9, a10, a11, a12, decide_true, decide_false, Bool.and_true, Bool.true_and, Bool.and_false, Bool.false_and, if_true, if_false, Bool.false_eq_true]; exact ⟨_, rfl, rfl, by simp⟩)
theorem right_ans (e : Int) (f : Bool) (v : ByteArray) (n : Int) : ∃ b, point_RightAns.f 100 e f v n = some b ∧ gleberef07_RightAns.f e f v n = some b ∧ (b = true → 0 ≤ e ∧ e ≤ 255 ∧ (v.size : Int) ≤ 32 ∧ 0 ≤ n ∧ n ≤ 1099511627776) := by
  unfold point_RightAns.f gleberef07_RightAns.f
  obtain ⟨q, hq⟩ : ∃ q, (v.toList == ([] : List UInt8)) = q := ⟨_, rfl⟩
  have hq2 : (v.toList = ([] : List UInt8)) = (q = true) := by rw [← hq]; simp
  obtain ⟨z, hz⟩ : ∃ z, (n == 0) = z := ⟨_, rfl⟩
  simp only [from_eq, all_four, Option.bind_some, ge_iff_le, hq2, hz]
  cases f <;> cases q <;> cases z <;> simp only [if_true, if_false, Bool.false_eq_true]
  all_goals
    by_cases a0 : 0 ≤ e
    rotate_left
    · (simp only [a0, decide_true, decide_false, Bool.and_true, Bool.true_and, Bool.and_false, Bool.false_and, if_true, if_false, Bool.false_eq_true]; exact ⟨_, rfl, rfl, by simp⟩)
    by_cases a1 : e ≤ 255
    rotate_left
    · (simp only [a0, a1, decide_true, decide_false, Bool.and_true, Bool.true_and, Bool.and_false, Bool.false_and, if_true, if_false, Bool.false_eq_true]; exact ⟨_, rfl, rfl, by simp⟩)
    by_cases a2 : (v.size : Int) ≤ 32
    rotate_left
    · (simp only [a0, a1, a2, decide_true, decide_false, Bool.and_true, Bool.true_and, Bool.and_false, Bool.false_and, if_true, if_false, Bool.false_eq_true]; exact ⟨_, rfl, rfl, by simp⟩)
    by_cases a3 : 0 ≤ n
    rotate_left
    · (simp only [a0, a1, a2, a3, decide_true, decide_false, Bool.and_true, Bool.true_and, Bool.and_false, Bool.false_and, if_true, if_false, Bool.false_eq_true]; exact ⟨_, rfl, rfl, by simp⟩)
    by_cases a4 : n ≤ 1099511627776
    rotate_left
    · (simp only [a0, a1, a2, a3, a4, decide_true, decide_false, Bool.and_true, Bool.true_and, Bool.and_false, Bool.false_and, if_true, if_false, Bool.false_eq_true]; exact ⟨_, rfl, rfl, by simp⟩)
    (simp only [a0, a1, a2, a3, a4, decide_true, decide_false, Bool.and_true, Bool.true_and, Bool.and_false, Bool.false_and, if_true, if_false, Bool.false_eq_true]; exact ⟨_, rfl, rfl, by simp⟩)
end Go.Proofs.Ytiglmgmkablpkaa.PK
