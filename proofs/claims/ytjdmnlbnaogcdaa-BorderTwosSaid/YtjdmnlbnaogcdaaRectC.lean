/- Rectangles of the torus: when one may be, and how far a cell is from one (plain facts on the printed functions). -/
import Derived.Test.YtjdmnlbnaogcdaaTorusFactsC
import Derived.Test.YtjdmnlbnaogcdaaPCx3
namespace Go.Proofs.Ytjdmnlbnaogcdaa.PC
open Go.RowKit Go.Proofs.YtjdmnlbnaogcdaaW.PrintWords Go.Proofs.YtjdmnlbnaogcdaaW.PrintLast Go.Proofs.YtjdmnlbnaogcdaaW.PrintMore
set_option linter.unusedVariables false
/-- A rectangle. -/
structure R4 where
  f0 : Int
  f1 : Int
  f2 : Int
  f3 : Int
/-- A rectangle that has cells. -/
def Pos (r : R4) : Prop := 0 ≤ r.f0 ∧ 0 ≤ r.f1 ∧ 0 < r.f2 ∧ 0 < r.f3 ∧ r.f0 + r.f2 ≤ 1073741824 ∧ r.f1 + r.f3 ≤ 1073741824
instance (r : R4) : Decidable (Pos r) := by unfold Pos; exact inferInstance
def Fine (r : R4) : Prop := 0 ≤ r.f0 ∧ 0 ≤ r.f1 ∧ 0 ≤ r.f2 ∧ 0 ≤ r.f3 ∧ r.f0 + r.f2 ≤ 1073741824 ∧ r.f1 + r.f3 ≤ 1073741824
instance (r : R4) : Decidable (Fine r) := by unfold Fine; exact inferInstance
theorem mn4 {a b c d : Int} : mn (mn (mn a b) c) d ≥ 0 ↔ 0 ≤ a ∧ 0 ≤ b ∧ 0 ≤ c ∧ 0 ≤ d := by
  unfold mn
  (repeat' split) <;> omega
theorem mx4 {a b c d m : Int} : mx (mx (mx a b) c) d ≤ m ↔ a ≤ m ∧ b ≤ m ∧ c ≤ m ∧ d ≤ m := by
  unfold mx
  (repeat' split) <;> omega
theorem mx2 {a b m : Int} : mx a b ≤ m ↔ a ≤ m ∧ b ≤ m := by
  unfold mx
  (repeat' split) <;> omega
theorem fine_eq (r : R4) : window_Rect_fine.f r.f0 r.f1 r.f2 r.f3 = some (decide (Fine r)) := by
  unfold window_Rect_fine.f window_Rect_right.f window_Rect_low.f
  simp only [mn4, mx2, Option.bind_some]
  by_cases h1 : 0 ≤ r.f0 ∧ 0 ≤ r.f1 ∧ 0 ≤ r.f2 ∧ 0 ≤ r.f3
  · rw [if_pos h1]
    by_cases h2 : ((r.f0 ≤ 1073741824 ∧ r.f1 ≤ 1073741824) ∧ r.f2 ≤ 1073741824) ∧ r.f3 ≤ 1073741824
    · rw [if_pos h2, wrap64_small (by omega) (by omega), wrap64_small (by omega) (by omega)]
      congr 1
      exact decide_eq_decide.mpr (by unfold Fine; omega)
    · rw [if_neg h2]
      congr 1
      exact (decide_eq_false (by unfold Fine; omega)).symm
  · rw [if_neg h1]
    congr 1
    exact (decide_eq_false (by unfold Fine; omega)).symm
theorem empty_eq (r : R4) : window_Rect_empty.f r.f0 r.f1 r.f2 r.f3 = some (decide (¬ Pos r)) := by
  unfold window_Rect_empty.f
  rw [fine_eq]
  simp only [Option.bind_some, decide_eq_true_eq]
  by_cases h : Fine r
  · rw [if_pos h]
    unfold Fine at h
    by_cases h0 : r.f2 = 0
    · rw [if_pos h0]
      congr 1
      exact (decide_eq_true (by unfold Pos; omega)).symm
    · rw [if_neg h0]
      congr 1
      by_cases h3 : r.f3 = 0
      · rw [h3]
        exact (decide_eq_true (by unfold Pos; omega)).symm
      · rw [beq_false_of_ne h3]
        exact (decide_eq_false (by unfold Pos; omega)).symm
  · rw [if_neg h]
    congr 1
    exact (decide_eq_true (by unfold Pos; unfold Fine at h; omega)).symm
/-- How many cells. -/
def ar (r : R4) : Int := if Pos r then r.f2 * r.f3 else 0
theorem mul_bd {a b m n : Int} (ha : 0 ≤ a) (hb : 0 ≤ b) (ham : a ≤ m) (hbn : b ≤ n) : 0 ≤ a * b ∧ a * b ≤ m * n :=
  ⟨Int.mul_nonneg ha hb, Int.mul_le_mul ham hbn hb (by omega)⟩
theorem mn_bd {a b l h : Int} (ha : l ≤ a ∧ a ≤ h) (hb : l ≤ b ∧ b ≤ h) : l ≤ mn a b ∧ mn a b ≤ h := by
  unfold mn
  split <;> omega
theorem mx_bd {a b l h : Int} (ha : l ≤ a ∧ a ≤ h) (hb : l ≤ b ∧ b ≤ h) : l ≤ mx a b ∧ mx a b ≤ h := by
  unfold mx
  split <;> omega
/-- Is a rectangle one of the torus? -/
theorem right_eq {K n : Int} (hk : OkT K n) (r : R4) : window_Right.f K r.f0 r.f1 r.f2 r.f3 = some (decide (0 ≤ r.f0 ∧ 0 ≤ r.f1 ∧ 0 ≤ r.f2 ∧ 0 ≤ r.f3 ∧ r.f0 + r.f2 ≤ n ∧ r.f1 + r.f3 ≤ n)) := by
  have hb := okT_bd hk
  unfold window_Right.f
  rw [side_eq hk, Option.bind_some, if_pos (by omega)]
  simp only [mn4, mx4]
  by_cases h1 : 0 ≤ r.f0 ∧ 0 ≤ r.f1 ∧ 0 ≤ r.f2 ∧ 0 ≤ r.f3
  · rw [if_pos h1]
    by_cases h2 : r.f0 ≤ n ∧ r.f1 ≤ n ∧ r.f2 ≤ n ∧ r.f3 ≤ n
    · rw [if_pos h2, wrap64_small (by omega) (by omega), wrap64_small (by omega) (by omega)]
      by_cases h3 : r.f0 + r.f2 ≤ n
      · rw [if_pos h3]
        congr 1
        exact decide_eq_decide.mpr (by omega)
      · rw [if_neg h3]
        congr 1
        exact (decide_eq_false (by omega)).symm
    · rw [if_neg h2]
      congr 1
      exact (decide_eq_false (by omega)).symm
  · rw [if_neg h1]
    congr 1
    exact (decide_eq_false (by omega)).symm
theorem right_no {K : Int} (hK : ¬ (1 ≤ K ∧ K ≤ 16)) (a b c d : Int) : window_Right.f K a b c d = some false := by
  unfold window_Right.f
  rw [side_no hK, Option.bind_some, if_neg (by decide)]
theorem fine_of_pos {r : R4} (h : Pos r) : Fine r := by
  unfold Pos at h
  unfold Fine
  omega
theorem two_pow_bd (i : Nat) (h : i ≤ 16) : (1 : Int) ≤ 2 ^ i ∧ (2 : Int) ^ i ≤ 65536 := by
  have h1 : (2 : Int) ^ i = ((2 ^ i : Nat) : Int) := by simp
  have h2 : 2 ^ i ≤ 2 ^ 16 := Nat.pow_le_pow_right (by decide) h
  have h3 : 0 < 2 ^ i := Nat.two_pow_pos i
  omega
theorem wrap_inc (n : Nat) (h : n ≤ 100000) : wrap64 ((n : Int) + 1) = ((n + 1 : Nat) : Int) := by
  rw [wrap64_small (by omega) (by omega)]
  rfl
/-- How far a number is from the nearest of a span. -/
def od (n q lo hi : Int) : Int := if lo ≤ q ∧ q < hi then 0 else mn (ap n q lo) (ap n q (hi - 1))
theorem off_eq {K n : Int} (hk : OkT K n) (k : Nat) {q lo hi : Int} (hq : 0 ≤ q ∧ q < n) (hlo : 0 ≤ lo) (hlt : lo < hi) (hhi : hi ≤ n) : window_off.f (k + 1) K q lo hi = some (od n q lo hi) := by
  have hb := okT_bd hk
  unfold window_off.f od
  by_cases h : lo ≤ q ∧ q < hi
  · rw [if_pos h, if_pos h]
  · rw [if_neg h, if_neg h, wrap64_small (by omega) (by omega), apart_eq hk k hq ⟨hlo, by omega⟩, apart_eq hk k hq ⟨by omega, by omega⟩]
    rfl
theorem od_bd {n q lo hi : Int} (hn : 2 ≤ n) : 0 ≤ od n q lo hi ∧ od n q lo hi ≤ n := by
  have h1 := ap_bd (n := n) (a := q) (b := lo) hn
  have h2 := ap_bd (n := n) (a := q) (b := hi - 1) hn
  unfold od
  split
  · omega
  · have := mn_bd (a := ap n q lo) (b := ap n q (hi - 1)) (l := 0) (h := n) (by omega) (by omega)
    omega
/-- Is a rectangle one of the torus? -/
def Rt (n : Int) (r : R4) : Prop := 0 ≤ r.f0 ∧ 0 ≤ r.f1 ∧ 0 ≤ r.f2 ∧ 0 ≤ r.f3 ∧ r.f0 + r.f2 ≤ n ∧ r.f1 + r.f3 ≤ n
instance (n : Int) (r : R4) : Decidable (Rt n r) := by unfold Rt; exact inferInstance
theorem rdist_eq {K n : Int} (hk : OkT K n) (k : Nat) (r : R4) (x y : Int) : window_Dist.f (k + 1) K r.f0 r.f1 r.f2 r.f3 x y =
    some (if Rt n r ∧ Pos r ∧ (0 ≤ x ∧ x < n ∧ 0 ≤ y ∧ y < n) then od n x r.f0 (r.f0 + r.f2) + od n y r.f1 (r.f1 + r.f3) else -1) := by
  have hb := okT_bd hk
  unfold window_Dist.f
  rw [right_eq hk, empty_eq, has_eq hk]
  simp only [Option.bind_some, decide_eq_true_eq]
  by_cases h1 : Rt n r
  · have h1' := h1
    unfold Rt at h1'
    rw [if_pos h1']
    by_cases h2 : Pos r
    · rw [if_neg (not_not_intro h2)]
      have h2' := h2
      unfold Pos at h2'
      by_cases h3 : 0 ≤ x ∧ x < n ∧ 0 ≤ y ∧ y < n
      · rw [if_pos h3, if_pos ⟨h1, h2, h3⟩, wrap64_small (x := r.f0 + r.f2) (by omega) (by omega), wrap64_small (x := r.f1 + r.f3) (by omega) (by omega)]
        rw [off_eq hk k ⟨by omega, by omega⟩ (by omega) (by omega) (by omega), off_eq hk k ⟨by omega, by omega⟩ (by omega) (by omega) (by omega)]
        have q1 := od_bd (n := n) (q := x) (lo := r.f0) (hi := r.f0 + r.f2) (by omega)
        have q2 := od_bd (n := n) (q := y) (lo := r.f1) (hi := r.f1 + r.f3) (by omega)
        simp only [Option.bind_some]
        rw [wrap64_small (by omega) (by omega)]
      · rw [if_neg h3, if_neg (fun q => h3 q.2.2)]
    · rw [if_pos h2, if_neg (fun q => h2 q.2.1)]
  · have h1' := h1
    unfold Rt at h1'
    rw [if_neg h1', if_neg (fun q => h1 q.1)]
theorem ar_pos (r : R4) : ar r > 0 ↔ Pos r := by
  unfold ar
  by_cases h : Pos r
  · rw [if_pos h]
    have h' := h
    unfold Pos at h'
    exact ⟨fun _ => h, fun _ => Int.mul_pos h'.2.2.1 h'.2.2.2.1⟩
  · rw [if_neg h]
    exact ⟨fun q => absurd q (by decide), fun q => absurd q h⟩
end Go.Proofs.Ytjdmnlbnaogcdaa.PC
