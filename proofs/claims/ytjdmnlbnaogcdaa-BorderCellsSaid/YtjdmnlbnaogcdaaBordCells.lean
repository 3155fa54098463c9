/- How many pairs of cells of two zones lie beside each other. -/
import Derived.Test.YtjdmnlbnaogcdaaPCx1
import Derived.Test.YtjdmnlbnaogcdaaPCx3
import Derived.Test.YtjdmnlbnaogcdaaPCx4
import Derived.Test.YtjdmnlbnaogcdaaPCx5
namespace Go.Proofs.Ytjdmnlbnaogcdaa.PC
open Go.RowKit Go.Proofs.YtjdmnlbnaogcdaaW.PrintWords Go.Proofs.YtjdmnlbnaogcdaaW.PrintLast Go.Proofs.YtjdmnlbnaogcdaaW.PrintMore

/-- A torus that may be, and its side. -/
def OkT (K n : Int) : Prop := 1 ≤ K ∧ K ≤ 16 ∧ n = 2 ^ K.toNat
theorem okT_cases {K n : Int} (h : OkT K n) : (K = 1 ∧ n = 2) ∨ (K = 2 ∧ n = 4) ∨ (K = 3 ∧ n = 8) ∨ (K = 4 ∧ n = 16) ∨ (K = 5 ∧ n = 32) ∨ (K = 6 ∧ n = 64) ∨ (K = 7 ∧ n = 128) ∨ (K = 8 ∧ n = 256) ∨ (K = 9 ∧ n = 512) ∨ (K = 10 ∧ n = 1024) ∨ (K = 11 ∧ n = 2048) ∨ (K = 12 ∧ n = 4096) ∨ (K = 13 ∧ n = 8192) ∨ (K = 14 ∧ n = 16384) ∨ (K = 15 ∧ n = 32768) ∨ (K = 16 ∧ n = 65536) := by
  obtain ⟨h1, h2, rfl⟩ := h
  have : K = 1 ∨ K = 2 ∨ K = 3 ∨ K = 4 ∨ K = 5 ∨ K = 6 ∨ K = 7 ∨ K = 8 ∨ K = 9 ∨ K = 10 ∨ K = 11 ∨ K = 12 ∨ K = 13 ∨ K = 14 ∨ K = 15 ∨ K = 16 := by omega
  rcases this with rfl | rfl | rfl | rfl | rfl | rfl | rfl | rfl | rfl | rfl | rfl | rfl | rfl | rfl | rfl | rfl <;> decide
theorem okT_bd {K n : Int} (h : OkT K n) : 1 ≤ K ∧ K ≤ 16 ∧ 2 ≤ n ∧ n ≤ 65536 ∧ n % 2 = 0 := by
  rcases okT_cases h with ⟨rfl, rfl⟩ | ⟨rfl, rfl⟩ | ⟨rfl, rfl⟩ | ⟨rfl, rfl⟩ | ⟨rfl, rfl⟩ | ⟨rfl, rfl⟩ | ⟨rfl, rfl⟩ | ⟨rfl, rfl⟩ | ⟨rfl, rfl⟩ | ⟨rfl, rfl⟩ | ⟨rfl, rfl⟩ | ⟨rfl, rfl⟩ | ⟨rfl, rfl⟩ | ⟨rfl, rfl⟩ | ⟨rfl, rfl⟩ | ⟨rfl, rfl⟩ <;> decide
theorem and_mask (x : Int) (m : Nat) (hm : m ≤ 62) : Go.bits .and .i64 x (2 ^ m - 1) = x % 2 ^ m := by
  have hp : (2 : Nat) ^ m ≤ 2 ^ 62 := Nat.pow_le_pow_right (by decide) hm
  have hpos : 0 < (2 : Nat) ^ m := Nat.pow_pos (by decide)
  have hc : ((2 : Int) ^ m - 1) = ((2 ^ m - 1 : Nat) : Int) := by
    rw [Int.natCast_sub (by omega)]
    simp
  have h127 : (BitVec.ofInt 64 ((2 : Int) ^ m - 1)).toNat = 2 ^ m - 1 := by
    rw [hc, BitVec.ofInt_natCast, BitVec.toNat_ofNat]
    exact Nat.mod_eq_of_lt (by omega)
  have key : (BitVec.ofInt 64 x &&& BitVec.ofInt 64 ((2 : Int) ^ m - 1)).toNat = (x % ((2 ^ 64 : Nat) : Int)).toNat % 2 ^ m := by
    rw [BitVec.toNat_and, BitVec.toNat_ofInt, h127, Nat.and_two_pow_sub_one_eq_mod]
  show IntKind.i64.wrap ((BitVec.ofInt 64 x &&& BitVec.ofInt 64 ((2 : Int) ^ m - 1)).toNat : Nat) = x % 2 ^ m
  rw [key, IntKind.wrap_i64]
  have hd : ((2 : Int) ^ m) ∣ ((2 ^ 64 : Nat) : Int) := by
    refine ⟨2 ^ (64 - m), ?_⟩
    rw [← Int.pow_add]
    have : m + (64 - m) = 64 := by omega
    rw [this]
    decide
  have h1 : (((x % ((2 ^ 64 : Nat) : Int)).toNat % 2 ^ m : Nat) : Int) = x % 2 ^ m := by
    have h0 : 0 ≤ x % ((2 ^ 64 : Nat) : Int) := Int.emod_nonneg _ (by decide)
    rw [Int.natCast_emod, Int.toNat_of_nonneg h0, Int.natCast_pow]
    exact Int.emod_emod_of_dvd x hd
  rw [h1]
  have h2 : 0 ≤ x % 2 ^ m := Int.emod_nonneg _ (Int.ne_of_gt (Int.pow_pos (by decide)))
  have h3 : x % 2 ^ m < 2 ^ m := Int.emod_lt_of_pos _ (Int.pow_pos (by decide))
  have h4 : (2 : Int) ^ m ≤ 4611686018427387904 := by
    have : (((2 : Nat) ^ m : Nat) : Int) ≤ ((2 ^ 62 : Nat) : Int) := Int.ofNat_le.2 hp
    rw [Int.natCast_pow] at this
    exact this
  omega
theorem okT_mask {K n : Int} (h : OkT K n) (x : Int) : Go.bits .and .i64 x (n - 1) = x % n := by
  obtain ⟨h1, h2, rfl⟩ := h
  exact and_mask x K.toNat (by omega)
theorem ok_eq (K : Int) : torus_Torus_ok.f K = some (decide (1 ≤ K ∧ K ≤ 16)) := by
  unfold torus_Torus_ok.f
  by_cases h1 : K ≥ 1 <;> simp [h1]
  all_goals omega
theorem side_eq {K n : Int} (h : OkT K n) : torus_Torus_Side.f K = some n := by
  unfold torus_Torus_Side.f
  rw [ok_eq]
  rcases okT_cases h with ⟨rfl, rfl⟩ | ⟨rfl, rfl⟩ | ⟨rfl, rfl⟩ | ⟨rfl, rfl⟩ | ⟨rfl, rfl⟩ | ⟨rfl, rfl⟩ | ⟨rfl, rfl⟩ | ⟨rfl, rfl⟩ | ⟨rfl, rfl⟩ | ⟨rfl, rfl⟩ | ⟨rfl, rfl⟩ | ⟨rfl, rfl⟩ | ⟨rfl, rfl⟩ | ⟨rfl, rfl⟩ | ⟨rfl, rfl⟩ | ⟨rfl, rfl⟩ <;> rfl
theorem side_no {K : Int} (h : ¬ (1 ≤ K ∧ K ≤ 16)) : torus_Torus_Side.f K = some 0 := by
  unfold torus_Torus_Side.f
  rw [ok_eq, decide_eq_false h]
  rfl
theorem okT_of {K : Int} (h : 1 ≤ K ∧ K ≤ 16) : OkT K (2 ^ K.toNat) := ⟨h.1, h.2, rfl⟩
theorem mask_eq {K n : Int} (h : OkT K n) : torus_Torus_mask.f K = some (n - 1) := by
  unfold torus_Torus_mask.f
  rw [side_eq h]
  have := okT_bd h
  simp only [Option.bind_some]
  unfold wrap64
  congr 1
  omega
theorem in_eq {K n : Int} (h : OkT K n) (a : Int) : torus_Torus_in.f K a = some (decide (0 ≤ a ∧ a < n)) := by
  unfold torus_Torus_in.f
  rw [side_eq h]
  by_cases h1 : a ≥ 0
  · rw [if_pos h1]
    simp [h1]
  · rw [if_neg h1]
    simp
    omega
theorem in_no {K : Int} (h : ¬ (1 ≤ K ∧ K ≤ 16)) (a : Int) : torus_Torus_in.f K a = some false := by
  unfold torus_Torus_in.f
  rw [side_no h]
  by_cases h1 : a ≥ 0
  · rw [if_pos h1]
    simp
    omega
  · rw [if_neg h1]
theorem has_eq {K n : Int} (h : OkT K n) (x y : Int) : torus_Torus_Has.f K x y = some (decide (0 ≤ x ∧ x < n ∧ 0 ≤ y ∧ y < n)) := by
  unfold torus_Torus_Has.f
  rw [in_eq h, in_eq h]
  by_cases h1 : 0 ≤ x ∧ x < n
  · simp [h1]
  · rw [decide_eq_false h1]
    simp
    omega
theorem has_yes {K n x y : Int} (h : OkT K n) (hx : 0 ≤ x ∧ x < n) (hy : 0 ≤ y ∧ y < n) : torus_Torus_Has.f K x y = some true := by
  rw [has_eq h, decide_eq_true ⟨hx.1, hx.2, hy.1, hy.2⟩]
theorem has_no {K : Int} (h : ¬ (1 ≤ K ∧ K ≤ 16)) (x y : Int) : torus_Torus_Has.f K x y = some false := by
  unfold torus_Torus_Has.f
  rw [in_no h]
  rfl
theorem mod_in {n : Int} (h : 2 ≤ n) (x : Int) : 0 ≤ x % n ∧ x % n < n := ⟨Int.emod_nonneg _ (by omega), Int.emod_lt_of_pos _ (by omega)⟩
/-- How far two numbers of a side are. -/
def ap (n a b : Int) : Int := mn ((b - a) % n) (n - (b - a) % n)
/-- What is taken off a number of (-n, n): itself, or itself and n. -/
theorem mod_diff {n d : Int} (_hn : 2 ≤ n) (h1 : -n < d) (h2 : d < n) : (0 ≤ d ∧ d % n = d) ∨ (d < 0 ∧ d % n = d + n) := by
  by_cases h : 0 ≤ d
  · exact .inl ⟨h, Int.emod_eq_of_lt h h2⟩
  · refine .inr ⟨by omega, ?_⟩
    rw [← Int.add_emod_right]
    exact Int.emod_eq_of_lt (by omega) (by omega)
theorem wrap64_small {x : Int} (h1 : -9223372036854775808 ≤ x) (h2 : x ≤ 9223372036854775807) : wrap64 x = x := by
  unfold wrap64
  omega
theorem apart_eq {K n a b : Int} (h : OkT K n) (k : Nat) (ha : 0 ≤ a ∧ a < n) (hb : 0 ≤ b ∧ b < n) : torus_Torus_Apart.f (k + 1) K a b = some (ap n a b) := by
  have hd := okT_bd h
  unfold torus_Torus_Apart.f
  rw [in_eq h, in_eq h, decide_eq_true ha, decide_eq_true hb]
  simp only [Option.bind_some, if_true, torus_Torus_Apart.j0, Bool.not_true]
  rw [if_neg (by decide), mask_eq h, side_eq h]
  simp only [Option.bind_some]
  rw [wrap64_small (by omega) (by omega), okT_mask h]
  have := mod_in (n := n) (by omega) (b - a)
  rw [wrap64_small (by omega) (by omega)]
  rfl
theorem apart_no {K n a b : Int} (h : OkT K n) (k : Nat) (hab : ¬ ((0 ≤ a ∧ a < n) ∧ (0 ≤ b ∧ b < n))) : torus_Torus_Apart.f (k + 1) K a b = some (-1) := by
  unfold torus_Torus_Apart.f
  rw [in_eq h, in_eq h]
  by_cases ha : 0 ≤ a ∧ a < n
  · rw [decide_eq_true ha, decide_eq_false (fun hb => hab ⟨ha, hb⟩)]
    simp [torus_Torus_Apart.j0]
  · rw [decide_eq_false ha]
    simp [torus_Torus_Apart.j0]
theorem ap_bd {n a b : Int} (hn : 2 ≤ n) : 0 ≤ ap n a b ∧ 2 * ap n a b ≤ n := by
  have := mod_in hn (b - a)
  unfold ap mn
  split <;> omega
end Go.Proofs.Ytjdmnlbnaogcdaa.PC
namespace Go.Proofs.Ytjdmnlbnaogcdaa.PC
open Go.RowKit Go.Proofs.YtjdmnlbnaogcdaaW.PrintWords Go.Proofs.YtjdmnlbnaogcdaaW.PrintLast Go.Proofs.YtjdmnlbnaogcdaaW.PrintMore
set_option linter.unusedVariables false
/-- A rectangle. -/
structure R4 where
  f0 : Int
  f1 : Int
  f2 : Int
  f3 : Int
/-- A rectangle that has cells. -/
def Pos (r : R4) : Prop := 0 ≤ r.f0 ∧ 0 ≤ r.f1 ∧ 0 < r.f2 ∧ 0 < r.f3 ∧ r.f0 + r.f2 ≤ 1073741824 ∧ r.f1 + r.f3 ≤ 1073741824
instance (r : R4) : Decidable (Pos r) := by unfold Pos; exact inferInstance
def Fine (r : R4) : Prop := 0 ≤ r.f0 ∧ 0 ≤ r.f1 ∧ 0 ≤ r.f2 ∧ 0 ≤ r.f3 ∧ r.f0 + r.f2 ≤ 1073741824 ∧ r.f1 + r.f3 ≤ 1073741824
instance (r : R4) : Decidable (Fine r) := by unfold Fine; exact inferInstance
theorem mn4 {a b c d : Int} : mn (mn (mn a b) c) d ≥ 0 ↔ 0 ≤ a ∧ 0 ≤ b ∧ 0 ≤ c ∧ 0 ≤ d := by
  unfold mn
  (repeat' split) <;> omega
theorem mx4 {a b c d m : Int} : mx (mx (mx a b) c) d ≤ m ↔ a ≤ m ∧ b ≤ m ∧ c ≤ m ∧ d ≤ m := by
  unfold mx
  (repeat' split) <;> omega
theorem mx2 {a b m : Int} : mx a b ≤ m ↔ a ≤ m ∧ b ≤ m := by
  unfold mx
  (repeat' split) <;> omega
theorem fine_eq (r : R4) : window_Rect_fine.f r.f0 r.f1 r.f2 r.f3 = some (decide (Fine r)) := by
  unfold window_Rect_fine.f window_Rect_right.f window_Rect_low.f
  simp only [mn4, mx2, Option.bind_some]
  by_cases h1 : 0 ≤ r.f0 ∧ 0 ≤ r.f1 ∧ 0 ≤ r.f2 ∧ 0 ≤ r.f3
  · rw [if_pos h1]
    by_cases h2 : ((r.f0 ≤ 1073741824 ∧ r.f1 ≤ 1073741824) ∧ r.f2 ≤ 1073741824) ∧ r.f3 ≤ 1073741824
    · rw [if_pos h2, wrap64_small (by omega) (by omega), wrap64_small (by omega) (by omega)]
      congr 1
      exact decide_eq_decide.mpr (by unfold Fine; omega)
    · rw [if_neg h2]
      congr 1
      exact (decide_eq_false (by unfold Fine; omega)).symm
  · rw [if_neg h1]
    congr 1
    exact (decide_eq_false (by unfold Fine; omega)).symm
theorem empty_eq (r : R4) : window_Rect_empty.f r.f0 r.f1 r.f2 r.f3 = some (decide (¬ Pos r)) := by
  unfold window_Rect_empty.f
  rw [fine_eq]
  simp only [Option.bind_some, decide_eq_true_eq]
  by_cases h : Fine r
  · rw [if_pos h]
    unfold Fine at h
    by_cases h0 : r.f2 = 0
    · rw [if_pos h0]
      congr 1
      exact (decide_eq_true (by unfold Pos; omega)).symm
    · rw [if_neg h0]
      congr 1
      by_cases h3 : r.f3 = 0
      · rw [h3]
        exact (decide_eq_true (by unfold Pos; omega)).symm
      · rw [beq_false_of_ne h3]
        exact (decide_eq_false (by unfold Pos; omega)).symm
  · rw [if_neg h]
    congr 1
    exact (decide_eq_true (by unfold Pos; unfold Fine at h; omega)).symm
/-- How many cells. -/
def ar (r : R4) : Int := if Pos r then r.f2 * r.f3 else 0
theorem mul_bd {a b m n : Int} (ha : 0 ≤ a) (hb : 0 ≤ b) (ham : a ≤ m) (hbn : b ≤ n) : 0 ≤ a * b ∧ a * b ≤ m * n :=
  ⟨Int.mul_nonneg ha hb, Int.mul_le_mul ham hbn hb (by omega)⟩
theorem mn_bd {a b l h : Int} (ha : l ≤ a ∧ a ≤ h) (hb : l ≤ b ∧ b ≤ h) : l ≤ mn a b ∧ mn a b ≤ h := by
  unfold mn
  split <;> omega
theorem mx_bd {a b l h : Int} (ha : l ≤ a ∧ a ≤ h) (hb : l ≤ b ∧ b ≤ h) : l ≤ mx a b ∧ mx a b ≤ h := by
  unfold mx
  split <;> omega
/-- Is a rectangle one of the torus? -/
theorem right_eq {K n : Int} (hk : OkT K n) (r : R4) : window_Right.f K r.f0 r.f1 r.f2 r.f3 = some (decide (0 ≤ r.f0 ∧ 0 ≤ r.f1 ∧ 0 ≤ r.f2 ∧ 0 ≤ r.f3 ∧ r.f0 + r.f2 ≤ n ∧ r.f1 + r.f3 ≤ n)) := by
  have hb := okT_bd hk
  unfold window_Right.f
  rw [side_eq hk, Option.bind_some, if_pos (by omega)]
  simp only [mn4, mx4]
  by_cases h1 : 0 ≤ r.f0 ∧ 0 ≤ r.f1 ∧ 0 ≤ r.f2 ∧ 0 ≤ r.f3
  · rw [if_pos h1]
    by_cases h2 : r.f0 ≤ n ∧ r.f1 ≤ n ∧ r.f2 ≤ n ∧ r.f3 ≤ n
    · rw [if_pos h2, wrap64_small (by omega) (by omega), wrap64_small (by omega) (by omega)]
      by_cases h3 : r.f0 + r.f2 ≤ n
      · rw [if_pos h3]
        congr 1
        exact decide_eq_decide.mpr (by omega)
      · rw [if_neg h3]
        congr 1
        exact (decide_eq_false (by omega)).symm
    · rw [if_neg h2]
      congr 1
      exact (decide_eq_false (by omega)).symm
  · rw [if_neg h1]
    congr 1
    exact (decide_eq_false (by omega)).symm
theorem right_no {K : Int} (hK : ¬ (1 ≤ K ∧ K ≤ 16)) (a b c d : Int) : window_Right.f K a b c d = some false := by
  unfold window_Right.f
  rw [side_no hK, Option.bind_some, if_neg (by decide)]
theorem fine_of_pos {r : R4} (h : Pos r) : Fine r := by
  unfold Pos at h
  unfold Fine
  omega
theorem two_pow_bd (i : Nat) (h : i ≤ 16) : (1 : Int) ≤ 2 ^ i ∧ (2 : Int) ^ i ≤ 65536 := by
  have h1 : (2 : Int) ^ i = ((2 ^ i : Nat) : Int) := by simp
  have h2 : 2 ^ i ≤ 2 ^ 16 := Nat.pow_le_pow_right (by decide) h
  have h3 : 0 < 2 ^ i := Nat.two_pow_pos i
  omega
theorem wrap_inc (n : Nat) (h : n ≤ 100000) : wrap64 ((n : Int) + 1) = ((n + 1 : Nat) : Int) := by
  rw [wrap64_small (by omega) (by omega)]
  rfl
/-- How far a number is from the nearest of a span. -/
def od (n q lo hi : Int) : Int := if lo ≤ q ∧ q < hi then 0 else mn (ap n q lo) (ap n q (hi - 1))
theorem off_eq {K n : Int} (hk : OkT K n) (k : Nat) {q lo hi : Int} (hq : 0 ≤ q ∧ q < n) (hlo : 0 ≤ lo) (hlt : lo < hi) (hhi : hi ≤ n) : window_off.f (k + 1) K q lo hi = some (od n q lo hi) := by
  have hb := okT_bd hk
  unfold window_off.f od
  by_cases h : lo ≤ q ∧ q < hi
  · rw [if_pos h, if_pos h]
  · rw [if_neg h, if_neg h, wrap64_small (by omega) (by omega), apart_eq hk k hq ⟨hlo, by omega⟩, apart_eq hk k hq ⟨by omega, by omega⟩]
    rfl
theorem od_bd {n q lo hi : Int} (hn : 2 ≤ n) : 0 ≤ od n q lo hi ∧ od n q lo hi ≤ n := by
  have h1 := ap_bd (n := n) (a := q) (b := lo) hn
  have h2 := ap_bd (n := n) (a := q) (b := hi - 1) hn
  unfold od
  split
  · omega
  · have := mn_bd (a := ap n q lo) (b := ap n q (hi - 1)) (l := 0) (h := n) (by omega) (by omega)
    omega
/-- Is a rectangle one of the torus? -/
def Rt (n : Int) (r : R4) : Prop := 0 ≤ r.f0 ∧ 0 ≤ r.f1 ∧ 0 ≤ r.f2 ∧ 0 ≤ r.f3 ∧ r.f0 + r.f2 ≤ n ∧ r.f1 + r.f3 ≤ n
instance (n : Int) (r : R4) : Decidable (Rt n r) := by unfold Rt; exact inferInstance
theorem rdist_eq {K n : Int} (hk : OkT K n) (k : Nat) (r : R4) (x y : Int) : window_Dist.f (k + 1) K r.f0 r.f1 r.f2 r.f3 x y =
    some (if Rt n r ∧ Pos r ∧ (0 ≤ x ∧ x < n ∧ 0 ≤ y ∧ y < n) then od n x r.f0 (r.f0 + r.f2) + od n y r.f1 (r.f1 + r.f3) else -1) := by
  have hb := okT_bd hk
  unfold window_Dist.f
  rw [right_eq hk, empty_eq, has_eq hk]
  simp only [Option.bind_some, decide_eq_true_eq]
  by_cases h1 : Rt n r
  · have h1' := h1
    unfold Rt at h1'
    rw [if_pos h1']
    by_cases h2 : Pos r
    · rw [if_neg (not_not_intro h2)]
      have h2' := h2
      unfold Pos at h2'
      by_cases h3 : 0 ≤ x ∧ x < n ∧ 0 ≤ y ∧ y < n
      · rw [if_pos h3, if_pos ⟨h1, h2, h3⟩, wrap64_small (x := r.f0 + r.f2) (by omega) (by omega), wrap64_small (x := r.f1 + r.f3) (by omega) (by omega)]
        rw [off_eq hk k ⟨by omega, by omega⟩ (by omega) (by omega) (by omega), off_eq hk k ⟨by omega, by omega⟩ (by omega) (by omega) (by omega)]
        have q1 := od_bd (n := n) (q := x) (lo := r.f0) (hi := r.f0 + r.f2) (by omega)
        have q2 := od_bd (n := n) (q := y) (lo := r.f1) (hi := r.f1 + r.f3) (by omega)
        simp only [Option.bind_some]
        rw [wrap64_small (by omega) (by omega)]
      · rw [if_neg h3, if_neg (fun q => h3 q.2.2)]
    · rw [if_pos h2, if_neg (fun q => h2 q.2.1)]
  · have h1' := h1
    unfold Rt at h1'
    rw [if_neg h1', if_neg (fun q => h1 q.1)]
theorem ar_pos (r : R4) : ar r > 0 ↔ Pos r := by
  unfold ar
  by_cases h : Pos r
  · rw [if_pos h]
    have h' := h
    unfold Pos at h'
    exact ⟨fun _ => h, fun _ => Int.mul_pos h'.2.2.1 h'.2.2.2.1⟩
  · rw [if_neg h]
    exact ⟨fun q => absurd q (by decide), fun q => absurd q h⟩
end Go.Proofs.Ytjdmnlbnaogcdaa.PC
namespace Go.Proofs.Ytjdmnlbnaogcdaa.PC
open Go.RowKit Go.Proofs.YtjdmnlbnaogcdaaW.PrintWords Go.Proofs.YtjdmnlbnaogcdaaW.PrintLast Go.Proofs.YtjdmnlbnaogcdaaW.PrintMore
set_option linter.unusedVariables false
def PathOk (K d b : Int) : Prop := (1 ≤ K ∧ K ≤ 16) ∧ (0 ≤ d ∧ d ≤ 2 * K) ∧ 0 ≤ b ∧ b < 2 ^ d.toNat
instance (K d b : Int) : Decidable (PathOk K d b) := by unfold PathOk; exact inferInstance
theorem pow_bd (i : Nat) (h : i ≤ 32) : (1 : Int) ≤ 2 ^ i ∧ (2 : Int) ^ i ≤ 4294967296 := by
  have h1 : (2 : Int) ^ i = ((2 ^ i : Nat) : Int) := by simp
  have h2 : 2 ^ i ≤ 2 ^ 32 := Nat.pow_le_pow_right (by decide) h
  have h3 : 0 < 2 ^ i := Nat.two_pow_pos i
  omega
theorem div_zero_iff {b : Int} {m : Nat} (hb : 0 ≤ b) : b / 2 ^ m = 0 ↔ b < 2 ^ m := by
  have hp : (0 : Int) < 2 ^ m := Int.pow_pos (by decide)
  constructor
  · intro h
    have := Int.lt_ediv_add_one_mul_self b hp
    rw [h] at this
    omega
  · intro h
    exact Int.ediv_eq_zero_of_lt hb h
theorem pright_eq (K d b : Int) : path_Right.f K d b = some (decide (PathOk K d b)) := by
  unfold path_Right.f
  by_cases h1 : K < 1
  · rw [if_pos h1]
    congr 1
    exact (decide_eq_false (fun h => by have := h.1; omega)).symm
  · rw [if_neg h1]
    by_cases h2 : K > 16
    · rw [if_pos h2]
      congr 1
      exact (decide_eq_false (fun h => by have := h.1; omega)).symm
    · rw [if_neg h2]
      by_cases h3 : d < 0
      · rw [if_pos h3]
        congr 1
        exact (decide_eq_false (fun h => by have := h.2.1; omega)).symm
      · rw [if_neg h3, wrap64_small (by omega) (by omega)]
        by_cases h4 : d > 2 * K
        · rw [if_pos h4]
          congr 1
          exact (decide_eq_false (fun h => by have := h.2.1; omega)).symm
        · rw [if_neg h4]
          by_cases h5 : b ≥ 0
          · rw [if_pos h5, if_pos (by omega)]
            congr 1
            unfold shr
            rw [show min d.toNat IntKind.i64.bits = d.toNat from Nat.min_eq_left (by show d.toNat ≤ 64; omega)]
            by_cases h6 : b < 2 ^ d.toNat
            · rw [(div_zero_iff h5).mpr h6]
              exact (decide_eq_true ⟨by omega, by omega, by omega, h6⟩).symm
            · rw [beq_false_of_ne (fun h => h6 ((div_zero_iff h5).mp h))]
              exact (decide_eq_false (fun h => h6 h.2.2.2)).symm
          · rw [if_neg h5]
            congr 1
            exact (decide_eq_false (fun h => h5 h.2.2.1)).symm
theorem u64_small {x : Int} (h : 0 ≤ x ∧ x ≤ 1000) : IntKind.u64.wrap x = x := by
  simp only [IntKind.wrap, IntKind.bits, IntKind.signed, Bool.false_and]
  rw [if_neg (by decide)]
  omega
theorem shl_one {d : Int} (h : 0 ≤ d ∧ d ≤ 32) : shl .i64 1 (IntKind.u64.wrap d) = 2 ^ d.toNat := by
  rw [u64_small (by omega)]
  have hp := pow_bd d.toNat (by omega)
  unfold shl
  rw [show min d.toNat IntKind.i64.bits = d.toNat from Nat.min_eq_left (by show d.toNat ≤ 64; omega), Int.one_mul, IntKind.wrap_i64]
  omega
/-- A zone's rectangle. -/
def cnR (c : Cn) : R4 := ⟨c.x, c.y, c.w, c.h⟩
def zone (n d b : Int) : R4 := cnR (cornerOf n (halves d b d.toNat))
theorem corner_eq {K n d b : Int} (hk : OkT K n) (h : PathOk K d b) : path_Corner.f K d b = some ((zone n d b).f0, (zone n d b).f1, (zone n d b).f2, (zone n d b).f3) := by
  have hb := okT_bd hk
  unfold path_Corner.f
  obtain ⟨h1, h2, h3, h4⟩ := h
  have hp := pow_bd d.toNat (by omega)
  rw [pright_eq, decide_eq_true ⟨h1, h2, h3, h4⟩, Option.bind_some, if_pos rfl, side_eq hk, Option.bind_some, if_pos (by omega)]
  rfl
theorem of_eq {K n d b : Int} (hk : OkT K n) (h : PathOk K d b) : window_Of.f K d b = some ((zone n d b).f0, (zone n d b).f1, (zone n d b).f2, (zone n d b).f3, 0) := by
  unfold window_Of.f
  rw [pright_eq, decide_eq_true h, Option.bind_some, if_pos rfl, corner_eq hk h]
  rfl
theorem of_no {K d b : Int} (h : ¬ PathOk K d b) : window_Of.f K d b = some (0, 0, 0, 0, 1) := by
  unfold window_Of.f
  rw [pright_eq, decide_eq_false h]
  rfl
/-- A zone has cells, all of the torus. -/
theorem corner_size {K n : Int} (hk : OkT K n) (d b : Int) (i : Nat) (hi : (i : Int) ≤ 2 * K) :
    (cornerOf n (halves d b i)).w = 2 ^ (K.toNat - (i + 1) / 2) ∧ (cornerOf n (halves d b i)).h = 2 ^ (K.toNat - i / 2) := by
  have hb := okT_bd hk
  induction i with
  | zero =>
    show n = _ ∧ n = _
    rw [hk.2.2]
    simp
  | succ i ih =>
    have ih := ih (by omega)
    rw [halves_succ, cornerOf_snoc]
    generalize cornerOf n (halves d b i) = c at *
    obtain ⟨i1, i2⟩ := ih
    have half : ∀ m : Nat, (2 : Int) ^ (m + 1) / 2 = 2 ^ m := fun m => by rw [Int.pow_succ]; omega
    unfold Cn.step halfAt
    dsimp only
    by_cases hi : (i : Int) % 2 = 0
    · rw [if_neg (by simp; omega)]
      dsimp only
      rw [i1, i2]
      refine ⟨?_, by congr 1; omega⟩
      rw [show K.toNat - (i + 1) / 2 = (K.toNat - (i + 1 + 1) / 2) + 1 by omega, half]
    · rw [if_pos (by simp; omega)]
      dsimp only
      rw [i1, i2]
      refine ⟨by congr 1; omega, ?_⟩
      rw [show K.toNat - i / 2 = (K.toNat - (i + 1) / 2) + 1 by omega, half]
theorem zone_ok {K n d b : Int} (hk : OkT K n) (h : PathOk K d b) : Pos (zone n d b) ∧ Rt n (zone n d b) := by
  have hb := okT_bd hk
  obtain ⟨h1, h2, h3, h4⟩ := h
  have hz := corner_size hk d b d.toNat (by omega)
  have ok := cnOk_of (s := n) (by omega) (halves d b d.toNat)
  unfold zone cnR Pos Rt
  generalize cornerOf n (halves d b d.toNat) = c at *
  obtain ⟨k1, k2, k3, k4, k5, k6⟩ := ok
  have p1 := two_pow_bd (K.toNat - (d.toNat + 1) / 2) (by omega)
  have p2 := two_pow_bd (K.toNat - d.toNat / 2) (by omega)
  dsimp only
  omega
end Go.Proofs.Ytjdmnlbnaogcdaa.PC
namespace Go.Proofs.Ytjdmnlbnaogcdaa.PC
open Go.RowKit Go.Proofs.YtjdmnlbnaogcdaaW.PrintWords Go.Proofs.YtjdmnlbnaogcdaaW.PrintLast Go.Proofs.YtjdmnlbnaogcdaaW.PrintMore
set_option linter.unusedVariables false
/-- Children. -/
theorem child_bits (d b c : Int) (hd : 0 ≤ d) (hc : 0 ≤ c ∧ c ≤ 1) (i : Nat) (hi : i < d.toNat) : halfBit (d + 1) (2 * b + c) i = halfBit d b i := by
  rw [halfBit_eq, halfBit_eq, show (d + 1).toNat - 1 - i = (d.toNat - 1 - i) + 1 by omega]
  rw [Int.pow_succ, Int.mul_comm (2 ^ _) 2, ← Int.ediv_ediv_of_nonneg (by decide)]
  rw [show (2 * b + c) / 2 = b by omega]
theorem child_halves (d b c : Int) (hd : 0 ≤ d) (hc : 0 ≤ c ∧ c ≤ 1) (k : Nat) (hk : k ≤ d.toNat) : halves (d + 1) (2 * b + c) k = halves d b k := by
  unfold halves
  apply List.map_congr_left
  intro i hi
  have hi' := List.mem_range.mp hi
  unfold halfAt
  congr 2
  exact child_bits d b c hd hc i (by omega)
theorem child_zone (n : Int) {d b c : Int} (hd : 0 ≤ d) (hc : 0 ≤ c ∧ c ≤ 1) :
    zone n (d + 1) (2 * b + c) = cnR ((cornerOf n (halves d b d.toNat)).step ((d.toNat : Int) % 2 == 1, c)) := by
  unfold zone
  rw [show (d + 1).toNat = d.toNat + 1 by omega, halves_succ, cornerOf_snoc, child_halves d b c hd hc _ (Nat.le_refl _)]
  have : (halfAt (d + 1) (2 * b + c) d.toNat).1 = ((d.toNat : Int) % 2 == 1, c) := by
    unfold halfAt
    dsimp only
    rw [halfBit_eq, show (d + 1).toNat - 1 - d.toNat = 0 by omega]
    congr 1
    simp
    omega
  rw [this]
/-- A parent's zone and its children's. -/
theorem zone_halves {K n d b : Int} (hk : OkT K n) (hp : PathOk K d b) (hd : d < 2 * K) :
    (∃ m, 0 ≤ m ∧ (zone n d b).f2 = 2 * m ∧ zone n (d + 1) (2 * b + 0) = ⟨(zone n d b).f0, (zone n d b).f1, m, (zone n d b).f3⟩ ∧ zone n (d + 1) (2 * b + 1) = ⟨(zone n d b).f0 + m, (zone n d b).f1, m, (zone n d b).f3⟩) ∨
    (∃ m, 0 ≤ m ∧ (zone n d b).f3 = 2 * m ∧ zone n (d + 1) (2 * b + 0) = ⟨(zone n d b).f0, (zone n d b).f1, (zone n d b).f2, m⟩ ∧ zone n (d + 1) (2 * b + 1) = ⟨(zone n d b).f0, (zone n d b).f1 + m, (zone n d b).f2, m⟩) := by
  have hb := okT_bd hk
  obtain ⟨h1, h2, h3, h4⟩ := hp
  rw [child_zone n h2.1 (by decide), child_zone n h2.1 (by decide)]
  obtain ⟨z1, z2⟩ := corner_size hk d b d.toNat (by omega)
  unfold zone cnR
  generalize cornerOf n (halves d b d.toNat) = c at *
  unfold Cn.step
  dsimp only
  have two : ∀ e : Nat, (2 : Int) ^ (e + 1) = 2 * 2 ^ e := fun e => by rw [Int.pow_succ]; omega
  have pz : ∀ e : Nat, (0 : Int) ≤ 2 ^ e := fun e => Int.le_of_lt (Int.pow_pos (by decide))
  by_cases hq : (d.toNat : Int) % 2 = 1
  · right
    have hh : c.h = 2 * 2 ^ (K.toNat - d.toNat / 2 - 1) := by rw [z2, ← two]; congr 1; omega
    refine ⟨2 ^ (K.toNat - d.toNat / 2 - 1), pz _, hh, ?_, ?_⟩
    · rw [if_pos (by simpa using hq)]
      dsimp only
      rw [show c.h / 2 = 2 ^ (K.toNat - d.toNat / 2 - 1) by omega, Int.zero_mul, Int.add_zero]
    · rw [if_pos (by simpa using hq)]
      dsimp only
      rw [show c.h / 2 = 2 ^ (K.toNat - d.toNat / 2 - 1) by omega, Int.one_mul]
  · left
    have hh : c.w = 2 * 2 ^ (K.toNat - (d.toNat + 1) / 2 - 1) := by rw [z1, ← two]; congr 1; omega
    refine ⟨2 ^ (K.toNat - (d.toNat + 1) / 2 - 1), pz _, hh, ?_, ?_⟩
    · rw [if_neg (by simpa using hq)]
      dsimp only
      rw [show c.w / 2 = 2 ^ (K.toNat - (d.toNat + 1) / 2 - 1) by omega, Int.zero_mul, Int.add_zero]
    · rw [if_neg (by simpa using hq)]
      dsimp only
      rw [show c.w / 2 = 2 ^ (K.toNat - (d.toNat + 1) / 2 - 1) by omega, Int.one_mul]
theorem child_ok {K d b c : Int} (hp : PathOk K d b) (hd : d < 2 * K) (hc : 0 ≤ c ∧ c ≤ 1) : PathOk K (d + 1) (2 * b + c) := by
  obtain ⟨h1, h2, h3, h4⟩ := hp
  refine ⟨h1, by omega, by omega, ?_⟩
  rw [show (d + 1).toNat = d.toNat + 1 by omega, Int.pow_succ]
  omega
theorem or_bit {b c : Int} (hb : 0 ≤ b ∧ b < 4294967296) (hc : 0 ≤ c ∧ c ≤ 1) : Go.bits .or .i64 (wrap64 (b * 2)) c = 2 * b + c := by
  rw [wrap64_small (by omega) (by omega)]
  have key : (BitVec.ofInt 64 (b * 2) ||| BitVec.ofInt 64 c).toNat = (b * 2 + c).toNat := by
    rw [BitVec.toNat_or, BitVec.toNat_ofInt, BitVec.toNat_ofInt]
    have e1 : ((b * 2) % ((2 ^ 64 : Nat) : Int)).toNat = 2 ^ 1 * b.toNat := by omega
    have e2 : (c % ((2 ^ 64 : Nat) : Int)).toNat = c.toNat := by omega
    rw [e1, e2, ← Nat.two_pow_add_eq_or_of_lt (by omega)]
    omega
  show IntKind.i64.wrap ((BitVec.ofInt 64 (b * 2) ||| BitVec.ofInt 64 c).toNat : Nat) = 2 * b + c
  rw [key, IntKind.wrap_i64]
  omega
theorem pos_mod1 (a m : Int) (hm : 1 ≤ m) (hs : m ≤ 1048576) : 0 ≤ Int.tmod (wrap64 (wrap64 (Int.tmod a (wrap64 (m + 1)) + m) + 1)) (wrap64 (m + 1)) ∧ Int.tmod (wrap64 (wrap64 (Int.tmod a (wrap64 (m + 1)) + m) + 1)) (wrap64 (m + 1)) ≤ m := by
  rw [wrap64_small (x := m + 1) (by omega) (by omega)]
  have h1 := Int.tmod_lt_of_pos a (b := m + 1) (by omega)
  have h2 := Int.lt_tmod_of_pos a (b := m + 1) (by omega)
  rw [wrap64_small (x := Int.tmod a (m + 1) + m) (by omega) (by omega), wrap64_small (by omega) (by omega)]
  have h3 := Int.tmod_lt_of_pos (Int.tmod a (m + 1) + m + 1) (b := m + 1) (by omega)
  exact ⟨Int.tmod_nonneg _ (by omega), by omega⟩
theorem some3_eq {K : Int} (hK : 1 ≤ K ∧ K ≤ 16) (d b : Int) : ∃ D B, glebelaw03_Some.f K d b = some (D, B) ∧ PathOk K D B := by
  unfold glebelaw03_Some.f
  rw [wrap64_small (x := 2 * K) (by omega) (by omega)]
  have hp := pos_mod1 d (2 * K) (by omega) (by omega)
  rw [if_neg (by rw [wrap64_small (by omega) (by omega)]; omega)]
  generalize Int.tmod (wrap64 (wrap64 (Int.tmod d (wrap64 (2 * K + 1)) + 2 * K) + 1)) (wrap64 (2 * K + 1)) = D at *
  have hpow := pow_bd D.toNat (by omega)
  rw [if_pos (by rw [u64_small (by omega)]; omega), shl_one (by omega), if_neg (by omega)]
  have t1 := Int.tmod_lt_of_pos b (b := 2 ^ D.toNat) (by omega)
  have t2 := Int.lt_tmod_of_pos b (b := 2 ^ D.toNat) (by omega)
  rw [wrap64_small (x := Int.tmod b (2 ^ D.toNat) + 2 ^ D.toNat) (by omega) (by omega)]
  exact ⟨_, _, rfl, hK, hp, Int.tmod_nonneg _ (by omega), Int.tmod_lt_of_pos _ (by omega)⟩
end Go.Proofs.Ytjdmnlbnaogcdaa.PC
namespace Go.Proofs.Ytjdmnlbnaogcdaa.PC
open Go.RowKit Go.Proofs.YtjdmnlbnaogcdaaW.PrintWords Go.Proofs.YtjdmnlbnaogcdaaW.PrintLast Go.Proofs.YtjdmnlbnaogcdaaW.PrintMore
set_option linter.unusedVariables false
/-- How many numbers two spans have together. -/
def cm (a m b l : Int) : Int := mx 0 (mn (a + m) (b + l) - mx a b)
/-- On how many ends two spans that have nothing together lie beside each other. -/
def Two (n a m b l : Int) : Prop := (a + m) % n = b ∧ (b + l) % n = a ∧ (m > 1 ∨ l > 1)
instance (n a m b l : Int) : Decidable (Two n a m b l) := by unfold Two; exact inferInstance
def One (n a m b l : Int) : Prop := (a + m) % n = b ∨ (b + l) % n = a
instance (n a m b l : Int) : Decidable (One n a m b l) := by unfold One; exact inferInstance
def sd (n a m b l : Int) : Int := if cm a m b l > 0 then 0 else if Two n a m b l then 2 else if One n a m b l then 1 else 0
def Sp (n a m : Int) : Prop := 0 ≤ a ∧ 0 < m ∧ a + m ≤ n
theorem cm_bd {n a m b l : Int} (h1 : Sp n a m) (h2 : Sp n b l) : 0 ≤ cm a m b l ∧ cm a m b l ≤ n := by
  unfold Sp at *
  unfold cm mx mn
  (repeat' split) <;> omega
theorem sd_bd (n a m b l : Int) : 0 ≤ sd n a m b l ∧ sd n a m b l ≤ 2 := by
  unfold sd
  (repeat' split) <;> omega
theorem bcommon_eq {n a m b l : Int} (hn : n ≤ 65536) (h1 : Sp n a m) (h2 : Sp n b l) : border_span_common.f a m b l = some (cm a m b l) := by
  unfold Sp at *
  unfold border_span_common.f
  rw [wrap64_small (x := a + m) (by omega) (by omega), wrap64_small (x := b + l) (by omega) (by omega)]
  have q1 := mn_bd (a := a + m) (b := b + l) (l := 0) (h := 65536) (by omega) (by omega)
  have q2 := mx_bd (a := a) (b := b) (l := 0) (h := 65536) (by omega) (by omega)
  rw [wrap64_small (by omega) (by omega)]
  rfl
theorem bsides_eq {n a m b l : Int} (hn : 2 ≤ n ∧ n ≤ 65536) (h1 : Sp n a m) (h2 : Sp n b l) (k : Nat) : border_span_sides.f (k + 1) a m b l n = some (sd n a m b l) := by
  have h1' := h1
  have h2' := h2
  unfold Sp at h1' h2'
  unfold border_span_sides.f sd
  rw [bcommon_eq hn.2 h1 h2, Option.bind_some]
  by_cases hc : cm a m b l > 0
  · rw [if_pos hc, if_pos hc]
  · rw [if_neg hc, if_neg hc, if_neg (by omega), wrap64_small (x := a + m) (by omega) (by omega), wrap64_small (x := b + l) (by omega) (by omega), Int.tmod_eq_emod_of_nonneg (by omega), Int.tmod_eq_emod_of_nonneg (by omega)]
    rfl
/-- Does the second path begin with the first one? -/
def ab (d b e c : Int) : Prop := PathOk 16 d b ∧ PathOk 16 e c ∧ d ≤ e ∧ c / 2 ^ (e - d).toNat = b
instance (d b e c : Int) : Decidable (ab d b e c) := by unfold ab; exact inferInstance
def mt (d b e c : Int) : Prop := ab d b e c ∨ ab e c d b
instance (d b e c : Int) : Decidable (mt d b e c) := by unfold mt; exact inferInstance
theorem pfine_eq (d b : Int) : path_fine.f d b = some (decide (PathOk 16 d b)) := by
  unfold path_fine.f
  rw [pright_eq]
  rfl
theorem above_eq (d b e c : Int) : path_Above.f d b e c = some (decide (ab d b e c)) := by
  unfold path_Above.f ab path_cut.f
  rw [pfine_eq, pfine_eq]
  simp only [Option.bind_some, decide_eq_true_eq]
  by_cases h1 : PathOk 16 d b
  · rw [if_pos h1]
    by_cases h2 : PathOk 16 e c
    · rw [if_pos h2]
      by_cases h3 : d ≤ e
      · have h1' := h1.2.1
        have h2' := h2.2.1
        rw [if_pos h3, wrap64_small (by omega) (by omega), if_pos (by omega), Option.bind_some]
        unfold shr
        rw [show min (e - d).toNat IntKind.i64.bits = (e - d).toNat from Nat.min_eq_left (by show _ ≤ 64; omega)]
        simp [h1, h2, h3]
        rw [Bool.eq_iff_iff]
        simp
      · rw [if_neg h3]
        simp [h3]
    · rw [if_neg h2]
      simp [h2]
  · rw [if_neg h1]
    simp [h1]
theorem meet3_eq (d b e c : Int) : path_Meet.f d b e c = some (decide (mt d b e c)) := by
  unfold path_Meet.f mt
  rw [above_eq, above_eq]
  simp only [Option.bind_some, decide_eq_true_eq]
  by_cases h1 : ab d b e c <;> simp [h1]
theorem ok16 {K d b : Int} (h : PathOk K d b) : PathOk 16 d b := by
  obtain ⟨h1, h2, h3⟩ := h
  exact ⟨by decide, by omega, h3⟩
/-- A zone's rectangle as two spans. -/
theorem zone_sp {K n d b : Int} (hk : OkT K n) (h : PathOk K d b) : Sp n (zone n d b).f0 (zone n d b).f2 ∧ Sp n (zone n d b).f1 (zone n d b).f3 := by
  have h1 := zone_ok hk h
  unfold Pos Rt at h1
  unfold Sp
  omega
/-- How long the border of two zones is. -/
def ln (n : Int) (p q : R4) : Int := sd n p.f0 p.f2 q.f0 q.f2 * cm p.f1 p.f3 q.f1 q.f3 + sd n p.f1 p.f3 q.f1 q.f3 * cm p.f0 p.f2 q.f0 q.f2
theorem mul_small {a b n : Int} (ha : 0 ≤ a ∧ a ≤ 2) (hb : 0 ≤ b ∧ b ≤ n) : 0 ≤ a * b ∧ a * b ≤ 2 * n := by
  have : a = 0 ∨ a = 1 ∨ a = 2 := by omega
  rcases this with rfl | rfl | rfl <;> omega
theorem wrap_sum {x y : Int} (hx : 0 ≤ x ∧ x ≤ 131072) (hy : 0 ≤ y ∧ y ≤ 131072) : wrap64 (wrap64 x + wrap64 y) = x + y := by
  rw [wrap64_small (x := x) (by omega) (by omega), wrap64_small (x := y) (by omega) (by omega), wrap64_small (by omega) (by omega)]
theorem spans_yes {K n d b : Int} (hk : OkT K n) (h : PathOk K d b) : border_spans.f K d b = some ((zone n d b).f0, (zone n d b).f2, (zone n d b).f1, (zone n d b).f3, true) := by
  unfold border_spans.f
  rw [of_eq hk h]
  rfl
theorem spans_no {K d b : Int} (h : ¬ PathOk K d b) : border_spans.f K d b = some (0, 0, 0, 0, false) := by
  unfold border_spans.f
  rw [of_no h]
  rfl
/-- The border of two paths. -/
def lnP (K d b e c : Int) : Int := if PathOk K d b ∧ PathOk K e c ∧ ¬ mt d b e c then ln (2 ^ K.toNat) (zone (2 ^ K.toNat) d b) (zone (2 ^ K.toNat) e c) else 0
theorem length_eq (K d b e c : Int) (k : Nat) : border_Length.f (k + 2) K d b e c = some (lnP K d b e c) := by
  unfold border_Length.f lnP
  by_cases h1 : PathOk K d b
  · have hk := okT_of h1.1
    have hb := okT_bd hk
    rw [spans_yes hk h1, Option.bind_some]
    dsimp only
    by_cases h2 : PathOk K e c
    · rw [spans_yes hk h2, Option.bind_some]
      dsimp only
      rw [if_pos rfl, if_pos rfl, meet3_eq, Option.bind_some]
      show border_Length.j0 ((k + 1) + 1) _ _ _ _ _ _ _ _ _ _ = _
      simp only [border_Length.j0, decide_eq_true_eq]
      by_cases h3 : mt d b e c
      · rw [if_pos h3, if_neg (fun q => q.2.2 h3)]
      · rw [if_neg h3, if_pos ⟨h1, h2, h3⟩]
        have z1 := zone_sp hk h1
        have z2 := zone_sp hk h2
        rw [side_eq hk, Option.bind_some, bsides_eq ⟨hb.2.2.1, hb.2.2.2.1⟩ z1.1 z2.1, bcommon_eq hb.2.2.2.1 z1.2 z2.2]
        simp only [Option.bind_some]
        rw [bsides_eq ⟨hb.2.2.1, hb.2.2.2.1⟩ z1.2 z2.2, bcommon_eq hb.2.2.2.1 z1.1 z2.1]
        simp only [Option.bind_some]
        have c1 := mul_small (sd_bd (2 ^ K.toNat) (zone (2 ^ K.toNat) d b).f0 (zone (2 ^ K.toNat) d b).f2 (zone (2 ^ K.toNat) e c).f0 (zone (2 ^ K.toNat) e c).f2) (cm_bd z1.2 z2.2)
        have c2 := mul_small (sd_bd (2 ^ K.toNat) (zone (2 ^ K.toNat) d b).f1 (zone (2 ^ K.toNat) d b).f3 (zone (2 ^ K.toNat) e c).f1 (zone (2 ^ K.toNat) e c).f3) (cm_bd z1.1 z2.1)
        rw [wrap_sum (by omega) (by omega)]
        rfl
    · rw [spans_no h2, Option.bind_some, if_neg (c := _ ∧ _) (fun q => h2 q.2.1)]
      rfl
  · rw [spans_no h1, Option.bind_some, if_neg (c := _ ∧ _) (fun q => h1 q.1)]
    by_cases h2 : PathOk K e c
    · rw [spans_yes (okT_of h2.1) h2, Option.bind_some]
      rfl
    · rw [spans_no h2, Option.bind_some]
      rfl
theorem beside_eq (K d b e c : Int) (k : Nat) : border_Beside.f (k + 2) K d b e c = some (decide (lnP K d b e c > 0)) := by
  unfold border_Beside.f
  rw [length_eq]
  rfl
theorem apart_yes {K n d b : Int} (hk : OkT K n) (h : PathOk K d b) (x y : Int) (k : Nat) : border_Apart.f (k + 1) K d b x y = window_Dist.f (k + 1) K (zone n d b).f0 (zone n d b).f1 (zone n d b).f2 (zone n d b).f3 x y := by
  unfold border_Apart.f
  rw [of_eq hk h, Option.bind_some]
  dsimp only
  rw [if_pos rfl]
  cases window_Dist.f (k + 1) K (zone n d b).f0 (zone n d b).f1 (zone n d b).f2 (zone n d b).f3 x y <;> rfl
theorem apart_nop {K d b : Int} (h : ¬ PathOk K d b) (x y : Int) (k : Nat) : border_Apart.f k K d b x y = some (-1) := by
  unfold border_Apart.f
  rw [of_no h]
  rfl
theorem knows6_eq (k : Nat) : glebelaw06_knows.f (k + 2) = some true := by
  have h1 : OkT 1 2 := ⟨by decide, by decide, by decide⟩
  have p1 : PathOk 1 1 1 := by decide
  unfold glebelaw06_knows.f
  rw [length_eq, beside_eq, beside_eq, show k + 2 = (k + 1) + 1 from rfl, apart_yes h1 p1, rdist_eq h1]
  have e1 : lnP 1 1 0 1 1 = 2 := by decide +kernel
  have e2 : lnP 1 1 1 1 0 = 2 := by decide +kernel
  have e3 : lnP 1 1 0 0 0 = 0 := by decide +kernel
  rw [e1, e2, e3]
  rfl
end Go.Proofs.Ytjdmnlbnaogcdaa.PC
namespace Go.Proofs.Ytjdmnlbnaogcdaa.PC
open Go.RowKit Go.Proofs.YtjdmnlbnaogcdaaW.PrintWords Go.Proofs.YtjdmnlbnaogcdaaW.PrintLast Go.Proofs.YtjdmnlbnaogcdaaW.PrintMore
set_option linter.unusedVariables false
/-- Have two rectangles a cell together? -/
def Ov (p q : R4) : Prop := p.f0 < q.f0 + q.f2 ∧ q.f0 < p.f0 + p.f2 ∧ p.f1 < q.f1 + q.f3 ∧ q.f1 < p.f1 + p.f3
instance (p q : R4) : Decidable (Ov p q) := by unfold Ov; exact inferInstance
def In4 (q p : R4) : Prop := p.f0 ≤ q.f0 ∧ q.f0 + q.f2 ≤ p.f0 + p.f2 ∧ p.f1 ≤ q.f1 ∧ q.f1 + q.f3 ≤ p.f1 + p.f3
theorem kid_in {K n d b c : Int} (hk : OkT K n) (hp : PathOk K d b) (hd : d < 2 * K) (hc : c = 0 ∨ c = 1) : In4 (zone n (d + 1) (2 * b + c)) (zone n d b) := by
  have hz := zone_ok hk hp
  unfold Pos Rt at hz
  unfold In4
  rcases zone_halves hk hp hd with ⟨m, h0, h1, h2, h3⟩ | ⟨m, h0, h1, h2, h3⟩
  all_goals
    rcases hc with rfl | rfl
    · rw [h2]
      dsimp only
      omega
    · rw [h3]
      dsimp only
      omega
theorem kid_apart {K n d b : Int} (hk : OkT K n) (hp : PathOk K d b) (hd : d < 2 * K) : ¬ Ov (zone n (d + 1) (2 * b + 0)) (zone n (d + 1) (2 * b + 1)) := by
  unfold Ov
  rcases zone_halves hk hp hd with ⟨m, h0, h1, h2, h3⟩ | ⟨m, h0, h1, h2, h3⟩ <;> rw [h2, h3] <;> dsimp only <;> omega
theorem par_ok {K d b : Int} (h : PathOk K (d + 1) b) (hd : 0 ≤ d) : PathOk K d (b / 2) := by
  obtain ⟨h1, h2, h3, h4⟩ := h
  rw [show (d + 1).toNat = d.toNat + 1 by omega, Int.pow_succ] at h4
  exact ⟨h1, by omega, by omega, by omega⟩
theorem half_eq (b : Int) : b = 2 * (b / 2) + b % 2 := by omega
theorem in_trans {p q r : R4} (h1 : In4 r q) (h2 : In4 q p) : In4 r p := by
  unfold In4 at *
  omega
theorem ov_in {p q r s : R4} (h1 : In4 p r) (h2 : In4 q s) (h : Ov p q) : Ov r s := by
  unfold In4 Ov at *
  omega
theorem ov_comm {p q : R4} : Ov p q → Ov q p := by
  unfold Ov
  omega
theorem up_in {K n d b : Int} (hk : OkT K n) (hpb : PathOk K (d + 1) b) (hd : 0 ≤ d) : In4 (zone n (d + 1) b) (zone n d (b / 2)) := by
  have hp := par_ok hpb hd
  have h := kid_in hk hp (c := b % 2) (by have := hpb.2.1; omega) (by omega)
  rwa [← half_eq] at h
theorem zone_up {K n d : Int} (hk : OkT K n) (hd : 0 ≤ d) (j : Nat) : ∀ c, PathOk K (d + j) c → In4 (zone n (d + j) c) (zone n d (c / 2 ^ j)) := by
  induction j with
  | zero =>
    intro c h
    have e : d + ((0 : Nat) : Int) = d := by omega
    rw [e]
    simp only [Int.pow_zero, Int.ediv_one]
    unfold In4
    omega
  | succ j ih =>
    intro c h
    have e : d + ((j + 1 : Nat) : Int) = (d + j) + 1 := by omega
    rw [e] at h ⊢
    have h1 := up_in hk h (by omega)
    have h2 := ih (c / 2) (par_ok h (by omega))
    have h3 := in_trans h1 h2
    rwa [Int.ediv_ediv_of_nonneg (by decide), Int.mul_comm, ← Int.pow_succ] at h3
theorem same_depth {K n : Int} (hk : OkT K n) (e : Nat) : ∀ b c, PathOk K e b → PathOk K e c → b ≠ c → ¬ Ov (zone n e b) (zone n e c) := by
  induction e with
  | zero =>
    intro b c h1 h2 h
    have a1 := h1.2.2
    have a2 := h2.2.2
    simp at a1 a2
    omega
  | succ e ih =>
    intro b c h1 h2 h ho
    have e1 : ((e + 1 : Nat) : Int) = (e : Int) + 1 := by omega
    rw [e1] at h1 h2 ho
    have p1 := par_ok h1 (by omega)
    have p2 := par_ok h2 (by omega)
    by_cases he : b / 2 = c / 2
    · have hlt : (e : Int) < 2 * K := by have := h1.2.1; omega
      have ha := kid_apart hk p1 hlt
      rcases (show b % 2 = 0 ∨ b % 2 = 1 by omega) with hb | hb <;> rcases (show c % 2 = 0 ∨ c % 2 = 1 by omega) with hc | hc
      · omega
      · rw [show b = 2 * (b / 2) + 0 by omega, show c = 2 * (b / 2) + 1 by omega] at ho
        exact ha ho
      · rw [show b = 2 * (b / 2) + 1 by omega, show c = 2 * (b / 2) + 0 by omega] at ho
        exact ha (ov_comm ho)
      · omega
    · exact ih _ _ p1 p2 he (ov_in (up_in hk h1 (by omega)) (up_in hk h2 (by omega)) ho)
theorem ov_meet1 {K n d b e c : Int} (hk : OkT K n) (h1 : PathOk K d b) (h2 : PathOk K e c) (hde : d ≤ e) (ho : Ov (zone n d b) (zone n e c)) : ab d b e c := by
  refine ⟨ok16 h1, ok16 h2, hde, ?_⟩
  have b1 := h1.2.1
  have hj := zone_up hk b1.1 (e - d).toNat c (by rw [show d + ((e - d).toNat : Int) = e by omega]; exact h2)
  rw [show d + ((e - d).toNat : Int) = e by omega] at hj
  have hq : PathOk K d (c / 2 ^ (e - d).toNat) := by
    obtain ⟨a1, a2, a3, a4⟩ := h2
    refine ⟨a1, b1, Int.ediv_nonneg a3 (Int.le_of_lt (Int.pow_pos (by decide))), Int.ediv_lt_of_lt_mul (Int.pow_pos (by decide)) ?_⟩
    rw [← Int.pow_add, show d.toNat + (e - d).toNat = e.toNat by omega]
    exact a4
  have he : ((d.toNat : Nat) : Int) = d := by omega
  rcases Classical.em (c / 2 ^ (e - d).toNat = b) with h | h
  · exact h
  · exfalso
    have := same_depth hk d.toNat b (c / 2 ^ (e - d).toNat) (by rw [he]; exact h1) (by rw [he]; exact hq) (fun q => h q.symm)
    rw [he] at this
    refine this ?_
    unfold Ov In4 at *
    omega
theorem ov_meet {K n d b e c : Int} (hk : OkT K n) (h1 : PathOk K d b) (h2 : PathOk K e c) (ho : Ov (zone n d b) (zone n e c)) : mt d b e c := by
  by_cases hde : d ≤ e
  · exact .inl (ov_meet1 hk h1 h2 hde ho)
  · exact .inr (ov_meet1 hk h2 h1 (by omega) (ov_comm ho))
end Go.Proofs.Ytjdmnlbnaogcdaa.PC
namespace Go.Proofs.Ytjdmnlbnaogcdaa.PC
open Go.RowKit Go.Proofs.YtjdmnlbnaogcdaaW.PrintWords Go.Proofs.YtjdmnlbnaogcdaaW.PrintLast Go.Proofs.YtjdmnlbnaogcdaaW.PrintMore
set_option linter.unusedVariables false
/-- Is a cell in a rectangle? -/
def InR (z : R4) (x y : Int) : Prop := z.f0 ≤ x ∧ x < z.f0 + z.f2 ∧ z.f1 ≤ y ∧ y < z.f1 + z.f3
instance (z : R4) (x y : Int) : Decidable (InR z x y) := by unfold InR; exact inferInstance
/-- The same, with where the rectangle stands. -/
def InZ (z : R4) (x y : Int) : Prop := InR z x y ∧ (∃ u, z.f0 = z.f2 * u) ∧ ∃ u, z.f1 = z.f3 * u
theorem half_step {f x w u : Int} (hw : 0 < w) (hf : f = 2 * w * u) (h1 : f ≤ x) (h2 : x < f + 2 * w) :
    f + x / w % 2 * w ≤ x ∧ x < f + x / w % 2 * w + w ∧ f + x / w % 2 * w = w * (2 * u + x / w % 2) := by
  have e : 2 * w * u = w * (2 * u) := by rw [Int.mul_comm 2 w, Int.mul_assoc]
  rw [e] at hf
  by_cases h : x < f + w
  · have q : x / w = 2 * u := by
      have := (Int.ediv_emod_unique (a := x) (b := w) (r := x - f) (q := 2 * u) hw).mpr ⟨by omega, by omega, by omega⟩
      exact this.1
    rw [q, show 2 * u % 2 = 0 by omega, Int.zero_mul, Int.add_zero, Int.add_zero]
    exact ⟨h1, h, hf⟩
  · have e2 : w * (2 * u + 1) = w * (2 * u) + w := by rw [Int.mul_add, Int.mul_one]
    have q : x / w = 2 * u + 1 := by
      have := (Int.ediv_emod_unique (a := x) (b := w) (r := x - f - w) (q := 2 * u + 1) hw).mpr ⟨by omega, by omega, by omega⟩
      exact this.1
    rw [q, show (2 * u + 1) % 2 = 1 by omega, Int.one_mul, e2]
    omega
theorem zone_zero (n : Int) : zone n 0 0 = ⟨0, 0, n, n⟩ := rfl
/-- Half number i of the path that has a cell. -/
def bitAt (K : Int) (i : Nat) (x y : Int) : Int := (if i % 2 = 1 then y else x) / 2 ^ (K.toNat - 1 - i / 2) % 2
theorem bitAt_bd (K : Int) (i : Nat) (x y : Int) : 0 ≤ bitAt K i x y ∧ bitAt K i x y ≤ 1 := by
  unfold bitAt
  generalize (if i % 2 = 1 then y else x) / 2 ^ (K.toNat - 1 - i / 2) = v
  omega
theorem zone_step {K n : Int} (hk : OkT K n) {i : Nat} {b x y : Int} (hlt : (i : Int) < 2 * K) (hz : InZ (zone n i b) x y) : InZ (zone n ((i : Int) + 1) (2 * b + bitAt K i x y)) x y := by
  have hb := okT_bd hk
  have hc := bitAt_bd K i x y
  rw [child_zone n (by omega) hc]
  obtain ⟨z1, z2⟩ := corner_size hk i b i (by omega)
  rw [show ((i : Int)).toNat = i by omega] at *
  unfold zone at hz
  rw [show ((i : Int)).toNat = i by omega] at hz
  generalize cornerOf n (halves (i : Int) b i) = c at *
  have two : ∀ e : Nat, (2 : Int) ^ (e + 1) = 2 * 2 ^ e := fun e => by rw [Int.pow_succ]; omega
  have pz : ∀ e : Nat, (0 : Int) < 2 ^ e := fun e => Int.pow_pos (by decide)
  unfold InZ InR cnR at *
  dsimp only at *
  obtain ⟨⟨k1, k2, k3, k4⟩, ⟨u, hu⟩, v, hv⟩ := hz
  unfold Cn.step
  dsimp only
  by_cases hq : i % 2 = 1
  · rw [if_pos (by simp; omega)]
    dsimp only
    have eb : bitAt K i x y = y / 2 ^ (K.toNat - 1 - i / 2) % 2 := by unfold bitAt; rw [if_pos hq]
    have hh : c.h = 2 * 2 ^ (K.toNat - 1 - i / 2) := by rw [z2, ← two]; congr 1; omega
    have eh : c.h / 2 = 2 ^ (K.toNat - 1 - i / 2) := by omega
    rw [eh, eb]
    have := half_step (f := c.y) (x := y) (w := 2 ^ (K.toNat - 1 - i / 2)) (u := v) (pz _) (by rw [hv, hh]) k3 (by omega)
    exact ⟨⟨k1, k2, this.1, this.2.1⟩, ⟨u, hu⟩, _, this.2.2⟩
  · rw [if_neg (by simp; omega)]
    dsimp only
    have eb : bitAt K i x y = x / 2 ^ (K.toNat - 1 - i / 2) % 2 := by unfold bitAt; rw [if_neg hq]
    have hh : c.w = 2 * 2 ^ (K.toNat - 1 - i / 2) := by rw [z1, ← two]; congr 1; omega
    have eh : c.w / 2 = 2 ^ (K.toNat - 1 - i / 2) := by omega
    rw [eh, eb]
    have := half_step (f := c.x) (x := x) (w := 2 ^ (K.toNat - 1 - i / 2)) (u := u) (pz _) (by rw [hu, hh]) k1 (by omega)
    exact ⟨⟨this.1, this.2.1, k3, k4⟩, ⟨_, this.2.2⟩, v, hv⟩
theorem shr_small {x s : Int} (hs : 0 ≤ s ∧ s ≤ 60) : shr .i64 x s = x / 2 ^ s.toNat := by
  unfold shr
  rw [show min s.toNat IntKind.i64.bits = s.toNat from Nat.min_eq_left (by show s.toNat ≤ 64; omega)]
theorem at_shift {K : Int} {i : Nat} (h1 : 1 ≤ K) (h2 : K ≤ 16) (hlt : (i : Int) < 2 * K) : wrap64 (wrap64 (K - 1) - wrap64 (Int.tdiv (i : Int) 2)) = K - 1 - (i : Int) / 2 := by
  rw [Int.tdiv_eq_ediv_of_nonneg (by omega), wrap64_small (x := K - 1) (by omega) (by omega), wrap64_small (x := (i : Int) / 2) (by omega) (by omega), wrap64_small (by omega) (by omega)]
theorem at_next {i : Nat} (h : i ≤ 100) : wrap64 ((i : Int) + 1) = ((i + 1 : Nat) : Int) := by
  rw [wrap64_small (by omega) (by omega)]
  omega
theorem at_bits {K : Int} {i : Nat} (h1 : 1 ≤ K) (hlt : (i : Int) < 2 * K) (h2 : K ≤ 16) (v : Int) : Go.bits .and .i64 (shr .i64 v (K - 1 - (i : Int) / 2)) 1 = v / 2 ^ (K.toNat - 1 - i / 2) % 2 := by
  rw [shr_small (by omega), and_one, show (K - 1 - (i : Int) / 2).toNat = K.toNat - 1 - i / 2 by omega]
theorem at_loop {K n : Int} (hk : OkT K n) {x y : Int} {D : Nat} (hD : (D : Int) ≤ 2 * K) (k : Nat) :
    ∀ (r i : Nat) (b : Int), i + r = D → PathOk K i b → InZ (zone n i b) x y →
      ∃ c, path_At.l0 (k + r + 1) D i K x y D b = some ((D : Int), c, 0) ∧ PathOk K D c ∧ InZ (zone n D c) x y := by
  have hb := okT_bd hk
  intro r
  induction r with
  | zero =>
    intro i b hi hp hz
    obtain rfl : i = D := by omega
    refine ⟨b, ?_, hp, hz⟩
    rw [path_At.l0, if_neg (by omega)]
  | succ r ih =>
    intro i b hi hp hz
    have hlt : (i : Int) < 2 * K := by omega
    have hc := bitAt_bd K i x y
    obtain ⟨p1, p2, p3, p4⟩ := hp
    have hpow := pow_bd ((i : Int)).toNat (by omega)
    have hn : PathOk K ((i + 1 : Nat) : Int) (2 * b + bitAt K i x y) := by
      have := child_ok (K := K) (d := i) (b := b) ⟨p1, p2, p3, p4⟩ hlt hc
      rwa [show ((i + 1 : Nat) : Int) = (i : Int) + 1 by omega]
    have hs := zone_step hk hlt hz
    obtain ⟨c, h1, h2⟩ := ih (i + 1) (2 * b + bitAt K i x y) (by omega) hn (by rw [show ((i + 1 : Nat) : Int) = (i : Int) + 1 by omega]; exact hs)
    refine ⟨c, ?_, h2⟩
    rw [show k + (r + 1) + 1 = (k + r + 1) + 1 by omega, path_At.l0, if_pos (by omega)]
    rw [at_shift hb.1 hb.2.1 hlt, at_next (by omega), at_bits hb.1 hlt hb.2.1, at_bits hb.1 hlt hb.2.1]
    by_cases hq : i % 2 = 1
    · rw [if_pos (by rw [Int.tmod_eq_emod_of_nonneg (by omega)]; omega), if_pos (by omega)]
      have eb : bitAt K i x y = y / 2 ^ (K.toNat - 1 - i / 2) % 2 := by unfold bitAt; rw [if_pos hq]
      rw [← eb, or_bit (by omega) hc]
      exact h1
    · rw [if_neg (by rw [Int.tmod_eq_emod_of_nonneg (by omega)]; omega), if_pos (by omega)]
      have eb : bitAt K i x y = x / 2 ^ (K.toNat - 1 - i / 2) % 2 := by unfold bitAt; rw [if_neg hq]
      rw [← eb, or_bit (by omega) hc]
      exact h1
/-- At: the one path of the depth whose zone has the cell. -/
theorem at_eq {K n e x y : Int} (hk : OkT K n) (hx : 0 ≤ x ∧ x < n) (hy : 0 ≤ y ∧ y < n) (he : 0 ≤ e ∧ e ≤ 2 * K) (k : Nat) (hk2 : 36 ≤ k) :
    ∃ b, path_At.f k K x y e = some (e, b, 0) ∧ PathOk K e b ∧ ∀ c, PathOk K e c → (b = c ↔ InR (zone n e c) x y) := by
  have hb := okT_bd hk
  obtain ⟨D, rfl⟩ : ∃ D : Nat, e = (D : Int) := ⟨e.toNat, by omega⟩
  obtain ⟨j, rfl⟩ : ∃ j, k = (j + D + 1) + 1 := ⟨k - D - 2, by omega⟩
  have h0 : InZ (zone n ((0 : Nat) : Int) 0) x y := by
    rw [show ((0 : Nat) : Int) = 0 from rfl, zone_zero]
    refine ⟨⟨by dsimp only; omega, by dsimp only; omega, by dsimp only; omega, by dsimp only; omega⟩, ⟨0, by simp⟩, 0, by simp⟩
  obtain ⟨b, h1, h2, h3⟩ := at_loop hk (x := x) (y := y) (D := D) (by omega) j D 0 0 (by omega) ⟨⟨hb.1, hb.2.1⟩, by omega, by decide, by decide⟩ h0
  refine ⟨b, ?_, h2, ?_⟩
  · unfold path_At.f
    rw [has_yes hk hx hy, Option.bind_some, if_pos rfl, if_neg (by omega), wrap64_small (x := 2 * K) (by omega) (by omega), decide_eq_false (by omega), path_At.j0, if_neg (by decide)]
    exact h1
  · intro c hc
    constructor
    · rintro rfl
      exact h3.1
    · intro hi
      refine Classical.byContradiction fun hne => same_depth hk D b c h2 hc hne ?_
      have := h3.1
      unfold InR at *
      unfold Ov
      omega
end Go.Proofs.Ytjdmnlbnaogcdaa.PC
namespace Go.Proofs.Ytjdmnlbnaogcdaa.PC
open Go.RowKit Go.Proofs.YtjdmnlbnaogcdaaW.PrintWords Go.Proofs.YtjdmnlbnaogcdaaW.PrintLast Go.Proofs.YtjdmnlbnaogcdaaW.PrintMore
set_option linter.unusedVariables false
set_option linter.unusedSimpArgs false
theorem bwrap_eq {K n : Int} (h : OkT K n) (x y : Int) : torus_Torus_Wrap.f K x y = some (x % n, y % n) := by
  have hb := okT_bd h
  unfold torus_Torus_Wrap.f
  rw [ok_eq, decide_eq_true ⟨hb.1, hb.2.1⟩, Option.bind_some, if_pos rfl, mask_eq h, Option.bind_some, Option.bind_some, okT_mask h, okT_mask h]
/-- Is a number in a span? -/
def one (b l v : Int) : Int := if b ≤ v ∧ v < b + l then 1 else 0
theorem one_01 (b l v : Int) : one b l v = 0 ∨ one b l v = 1 := by
  unfold one
  split
  · exact .inr rfl
  · exact .inl rfl
def hit (q : R4) (x y : Int) : Int := one q.f0 q.f2 x * one q.f1 q.f3 y
theorem hit_in (q : R4) (x y : Int) : hit q x y = if InR q x y then 1 else 0 := by
  unfold hit one
  by_cases h1 : q.f0 ≤ x ∧ x < q.f0 + q.f2
  · rw [if_pos h1, Int.one_mul]
    by_cases h2 : q.f1 ≤ y ∧ y < q.f1 + q.f3
    · have h : InR q x y := ⟨h1.1, h1.2, h2.1, h2.2⟩
      rw [if_pos h2, if_pos h]
    · have h : ¬ InR q x y := fun h => h2 ⟨h.2.2.1, h.2.2.2⟩
      rw [if_neg h2, if_neg h]
  · have h : ¬ InR q x y := fun h => h1 ⟨h.1, h.2.1⟩
    rw [if_neg h1, Int.zero_mul, if_neg h]
theorem hit_01 (q : R4) (x y : Int) : 0 ≤ hit q x y ∧ hit q x y ≤ 1 := by
  rw [hit_in]
  split <;> decide
/-- One of the four, unless it is told already. -/
def unl (g : Bool) (v : Int) : Int := if g = true then 0 else v
theorem unl_01 {g : Bool} {v : Int} (h : 0 ≤ v ∧ v ≤ 1) : 0 ≤ unl g v ∧ unl g v ≤ 1 := by
  unfold unl
  split
  · decide
  · exact h
/-- A sum. -/
def sf (f : Nat → Int) : Nat → Nat → Int
  | 0, _ => 0
  | r + 1, m => f m + sf f r (m + 1)
theorem j5_eq {K n e c N : Int} (W H i m : Int) {L : List S25} {s s' : Int} {p : S25} {again : Bool} (hk : OkT K n) (hq : PathOk K e c) (hlen : (L.length : Int) = 4) (hs : 0 ≤ s ∧ s < 4) (hs' : s + 1 = s') (hp : rd_T25 L s = p)
    (hx : 0 ≤ p.f0 ∧ p.f0 < n) (hy : 0 ≤ p.f1 ∧ p.f1 < n) (hN : 0 ≤ N ∧ N ≤ 100000) (k : Nat) (hk2 : 36 ≤ k) (px py : Int) :
    glebelaw06_cells.j5 (k + 1) W H N i m L s again K e c px py = glebelaw06_cells.l2 k W H (N + unl again (hit (zone n e c) p.f0 p.f1)) i m L s' K e c px py := by
  subst hs'
  rw [glebelaw06_cells.j5, if_pos hs.1, if_pos (by omega), hp]
  obtain ⟨b, h1, h2, h3⟩ := at_eq hk hx hy hq.2.1 k hk2
  rw [h1, Option.bind_some]
  dsimp only
  unfold glebelaw06_num.f unl
  rw [Option.bind_some, if_pos rfl, wrap64_small (x := s + 1) (by omega) (by omega), hit_in]
  by_cases hc : b = c
  · have hr := (h3 c hq).mp hc
    subst hc
    rw [if_pos (by simp), if_pos hr, wrap64_small (x := N + 1) (by omega) (by omega)]
    cases again
    · rfl
    · rw [if_pos rfl, if_pos rfl, Int.add_zero]
  · have hr : ¬ InR (zone n e c) p.f0 p.f1 := fun h => hc ((h3 c hq).mpr h)
    rw [if_neg (by simp [hc]), if_neg hr]
    cases again
    · rw [if_neg (by decide), Int.add_zero]
    · rw [if_pos rfl, Int.add_zero]
theorem l2_eq {K n e c N : Int} (W H i m : Int) {L : List S25} {p0 p1 p2 p3 : S25} (hk : OkT K n) (hq : PathOk K e c) (hlen : (L.length : Int) = 4)
    (r0 : rd_T25 L 0 = p0) (r1 : rd_T25 L 1 = p1) (r2 : rd_T25 L 2 = p2) (r3 : rd_T25 L 3 = p3)
    (b0 : (0 ≤ p0.f0 ∧ p0.f0 < n) ∧ 0 ≤ p0.f1 ∧ p0.f1 < n) (b1 : (0 ≤ p1.f0 ∧ p1.f0 < n) ∧ 0 ≤ p1.f1 ∧ p1.f1 < n) (b2 : (0 ≤ p2.f0 ∧ p2.f0 < n) ∧ 0 ≤ p2.f1 ∧ p2.f1 < n) (b3 : (0 ≤ p3.f0 ∧ p3.f0 < n) ∧ 0 ≤ p3.f1 ∧ p3.f1 < n)
    (hN : 0 ≤ N ∧ N ≤ 90000) (hm : 0 ≤ m ∧ m ≤ 100) (k : Nat) (hk2 : 36 ≤ k) (px py : Int) :
    glebelaw06_cells.l2 (k + 9) W H N i m L 0 K e c px py = glebelaw06_cells.l1 k W H (N + hit (zone n e c) p0.f0 p0.f1 + unl (p1.f0 == p0.f0 && (p1.f1 == p0.f1)) (hit (zone n e c) p1.f0 p1.f1) + hit (zone n e c) p2.f0 p2.f1 + unl (p3.f0 == p2.f0 && (p3.f1 == p2.f1)) (hit (zone n e c) p3.f0 p3.f1)) i (m + 1) K e c px py := by
  have w1 : wrap64 (1 - 1) = 0 := (wrap64_small (x := 1 - 1) (by decide) (by decide)).trans (by decide)
  have w3 : wrap64 (3 - 1) = 2 := (wrap64_small (x := 3 - 1) (by decide) (by decide)).trans (by decide)
  have c0 := hit_01 (zone n e c) p0.f0 p0.f1
  have c1 := unl_01 (g := (p1.f0 == p0.f0 && (p1.f1 == p0.f1))) (hit_01 (zone n e c) p1.f0 p1.f1)
  have c2 := hit_01 (zone n e c) p2.f0 p2.f1
  have u : ∀ v, unl false v = v := fun v => rfl
  rw [show k + 9 = ((k + 7) + 1) + 1 by omega, glebelaw06_cells.l2, if_pos (by decide), if_neg (by decide), j5_eq W H i m hk hq hlen (s' := 1) (by decide) (by decide) r0 b0.1 b0.2 (by omega) (k + 7) (by omega), u]
  rw [show k + 7 = ((k + 5) + 1) + 1 by omega, glebelaw06_cells.l2, if_pos (by decide), if_pos (by decide), if_pos (by decide), if_pos (by omega), w1, if_pos (by decide), if_pos (by omega), r1, r0,
    j5_eq W H i m hk hq hlen (s' := 2) (by decide) (by decide) r1 b1.1 b1.2 (by omega) (k + 5) (by omega)]
  rw [show k + 5 = ((k + 3) + 1) + 1 by omega, glebelaw06_cells.l2, if_pos (by decide), if_neg (by decide), j5_eq W H i m hk hq hlen (s' := 3) (by decide) (by decide) r2 b2.1 b2.2 (by omega) (k + 3) (by omega), u]
  rw [show k + 3 = ((k + 1) + 1) + 1 by omega, glebelaw06_cells.l2, if_pos (by decide), if_pos (by decide), if_pos (by decide), if_pos (by omega), w3, if_pos (by decide), if_pos (by omega), r3, r2,
    j5_eq W H i m hk hq hlen (s' := 4) (by decide) (by decide) r3 b3.1 b3.2 (by omega) (k + 1) (by omega)]
  rw [glebelaw06_cells.l2, if_neg (by decide), wrap64_small (x := m + 1) (by omega) (by omega)]
/-- What one cell gives. -/
def gv (n : Int) (z : R4) (x y : Int) : Int :=
  hit z ((x + 1) % n) (y % n) + unl ((x - 1) % n == (x + 1) % n && (y % n == y % n)) (hit z ((x - 1) % n) (y % n)) + hit z (x % n) ((y + 1) % n) + unl (x % n == x % n && ((y - 1) % n == (y + 1) % n)) (hit z (x % n) ((y - 1) % n))
theorem gv_bd (n : Int) (z : R4) (x y : Int) : 0 ≤ gv n z x y ∧ gv n z x y ≤ 4 := by
  have c0 := hit_01 z ((x + 1) % n) (y % n)
  have c1 := unl_01 (g := (x - 1) % n == (x + 1) % n && (y % n == y % n)) (hit_01 z ((x - 1) % n) (y % n))
  have c2 := hit_01 z (x % n) ((y + 1) % n)
  have c3 := unl_01 (g := x % n == x % n && ((y - 1) % n == (y + 1) % n)) (hit_01 z (x % n) ((y - 1) % n))
  unfold gv
  omega
theorem l1_step {K n e c N i m px py H : Int} (W : Int) (hk : OkT K n) (hq : PathOk K e c) (hi : 0 ≤ i ∧ i ≤ 20) (hm : 0 ≤ m ∧ m < H) (hH : H ≤ 16) (hx : 0 ≤ px ∧ px ≤ 65536) (hy : 0 ≤ py ∧ py ≤ 65536)
    (hN : 0 ≤ N ∧ N ≤ 90000) (k : Nat) (hk2 : 36 ≤ k) :
    glebelaw06_cells.l1 (k + 11) W H N i m K e c px py = glebelaw06_cells.l1 k W H (N + gv n (zone n e c) (px + i) (py + m)) i (m + 1) K e c px py := by
  have hb := okT_bd hk
  have q : ∀ v : Int, 0 ≤ v % n ∧ v % n < n := mod_in hb.2.2.1
  rw [glebelaw06_cells.l1, if_pos hm.2, decide_eq_true (show m < 20 by omega), glebelaw06_cells.j3, if_pos rfl, wrap64_small (x := px + i) (by omega) (by omega), wrap64_small (x := py + m) (by omega) (by omega),
    wrap64_small (x := px + i + 1) (by omega) (by omega), wrap64_small (x := px + i - 1) (by omega) (by omega), wrap64_small (x := py + m + 1) (by omega) (by omega), wrap64_small (x := py + m - 1) (by omega) (by omega),
    bwrap_eq hk, bwrap_eq hk, bwrap_eq hk, bwrap_eq hk]
  simp only [Option.bind_some]
  rw [l2_eq W H i m (p0 := ⟨(px + i + 1) % n, (py + m) % n⟩) (p1 := ⟨(px + i - 1) % n, (py + m) % n⟩) (p2 := ⟨(px + i) % n, (py + m + 1) % n⟩) (p3 := ⟨(px + i) % n, (py + m - 1) % n⟩) hk hq rfl rfl rfl rfl rfl ⟨q _, q _⟩ ⟨q _, q _⟩ ⟨q _, q _⟩ ⟨q _, q _⟩ hN (by omega) k hk2]
  dsimp only
  congr 1
  unfold gv
  omega
theorem l1_all {K n e c i px py : Int} {H : Nat} (W : Int) (hk : OkT K n) (hq : PathOk K e c) (hi : 0 ≤ i ∧ i ≤ 20) (hH : H ≤ 16) (hx : 0 ≤ px ∧ px ≤ 65536) (hy : 0 ≤ py ∧ py ≤ 65536) (k : Nat) (hk2 : 36 ≤ k) :
    ∀ (r m : Nat) (N : Int), m + r = H → 0 ≤ N → N + 4 * r ≤ 80000 → glebelaw06_cells.l1 (k + 11 * r + 2) W H N i m K e c px py = glebelaw06_cells.l0 k W H (N + sf (fun j => gv n (zone n e c) (px + i) (py + j)) r m) (i + 1) K e c px py := by
  intro r
  induction r with
  | zero =>
    intro m N hm h0 hN
    rw [show k + 11 * 0 + 2 = (k + 1) + 1 by omega, glebelaw06_cells.l1, if_neg (by omega), glebelaw06_cells.j3, if_neg (by decide), wrap64_small (x := i + 1) (by omega) (by omega)]
    rw [show sf (fun j => gv n (zone n e c) (px + i) (py + j)) 0 m = 0 from rfl, Int.add_zero]
  | succ r ih =>
    intro m N hm h0 hN
    have hg := gv_bd n (zone n e c) (px + i) (py + m)
    rw [show k + 11 * (r + 1) + 2 = (k + 11 * r + 2) + 11 by omega, l1_step W hk hq hi (by omega) (by omega) hx hy (by omega) _ (by omega), show ((m : Int) + 1) = ((m + 1 : Nat) : Int) by omega]
    rw [ih (m + 1) _ (by omega) (by omega) (by omega)]
    rw [show sf (fun j => gv n (zone n e c) (px + i) (py + j)) (r + 1) m = gv n (zone n e c) (px + i) (py + (m : Nat)) + sf (fun j => gv n (zone n e c) (px + i) (py + j)) r (m + 1) from rfl, Int.add_assoc]
theorem sf_bd {f : Nat → Int} {b : Int} (h : ∀ j, 0 ≤ f j ∧ f j ≤ b) (hb : 0 ≤ b) : ∀ r m, 0 ≤ sf f r m ∧ sf f r m ≤ b * r := by
  intro r
  induction r with
  | zero => intro m; exact ⟨Int.le_refl _, by simp [sf]⟩
  | succ r ih =>
    intro m
    have h1 := h m
    have h2 := ih (m + 1)
    rw [sf, show ((r + 1 : Nat) : Int) = (r : Int) + 1 by omega, Int.mul_add, Int.mul_one]
    omega
theorem l0_all {K n e c px py : Int} {W H : Nat} (hk : OkT K n) (hq : PathOk K e c) (hW : W ≤ 16) (hH : H ≤ 16) (hx : 0 ≤ px ∧ px ≤ 65536) (hy : 0 ≤ py ∧ py ≤ 65536) (k : Nat) (hk2 : 36 ≤ k) :
    ∀ (r i : Nat) (N : Int), i + r = W → 0 ≤ N → N + 64 * r ≤ 70000 → glebelaw06_cells.l0 (k + (11 * H + 4) * r + 2) W H N i K e c px py = some (N + sf (fun i => sf (fun j => gv n (zone n e c) (px + i) (py + j)) H 0) r i) := by
  intro r
  induction r with
  | zero =>
    intro i N hi h0 hN
    rw [show k + (11 * H + 4) * 0 + 2 = (k + 1) + 1 by omega, glebelaw06_cells.l0, if_neg (by omega), glebelaw06_cells.j1, if_neg (by decide)]
    rw [show sf (fun i => sf (fun j => gv n (zone n e c) (px + i) (py + j)) H 0) 0 i = 0 from rfl, Int.add_zero]
  | succ r ih =>
    intro i N hi h0 hN
    have hg := sf_bd (f := fun j => gv n (zone n e c) (px + i) (py + j)) (b := 4) (fun j => gv_bd _ _ _ _) (by decide) H 0
    have e1 : k + (11 * H + 4) * (r + 1) + 2 = (((k + (11 * H + 4) * r + 2) + 11 * H + 2) + 1) + 1 := by rw [Nat.mul_succ]; omega
    rw [e1, glebelaw06_cells.l0, if_pos (by omega), decide_eq_true (show (i : Int) < 20 by omega), glebelaw06_cells.j1, if_pos rfl]
    have h1 := l1_all (W : Int) (H := H) hk hq (i := i) (by omega) hH hx hy (k + (11 * H + 4) * r + 2) (by omega) H 0 N (by omega) h0 (by omega)
    rw [show ((0 : Nat) : Int) = 0 from rfl] at h1
    rw [h1, show ((i : Int) + 1) = ((i + 1 : Nat) : Int) by omega, ih (i + 1) _ (by omega) (by omega) (by omega)]
    rw [show sf (fun i => sf (fun j => gv n (zone n e c) (px + i) (py + j)) H 0) (r + 1) i = sf (fun j => gv n (zone n e c) (px + (i : Nat)) (py + j)) H 0 + sf (fun i => sf (fun j => gv n (zone n e c) (px + i) (py + j)) H 0) r (i + 1) from rfl, Int.add_assoc]
/-! Sums. -/
theorem sf_congr {f g : Nat → Int} : ∀ r m : Nat, (∀ j, m ≤ j → j < m + r → f j = g j) → sf f r m = sf g r m := by
  intro r
  induction r with
  | zero => intro m _; rfl
  | succ r ih =>
    intro m h
    rw [sf, sf, h m (by omega) (by omega), ih (m + 1) (fun j h1 h2 => h j (by omega) (by omega))]
theorem sf_add (f g : Nat → Int) : ∀ r m : Nat, sf (fun j => f j + g j) r m = sf f r m + sf g r m := by
  intro r
  induction r with
  | zero => intro m; rfl
  | succ r ih =>
    intro m
    rw [sf, sf, sf, ih]
    omega
theorem sf_mul (c : Int) (f : Nat → Int) : ∀ r m : Nat, sf (fun j => c * f j) r m = c * sf f r m := by
  intro r
  induction r with
  | zero => intro m; exact (Int.mul_zero c).symm
  | succ r ih =>
    intro m
    rw [sf, sf, ih, Int.mul_add]
theorem sf_mul_r (c : Int) (f : Nat → Int) (r m : Nat) : sf (fun j => f j * c) r m = sf f r m * c := by
  rw [Int.mul_comm, ← sf_mul]
  exact sf_congr r m (fun j _ _ => Int.mul_comm _ _)
/-- How many numbers two spans have together, one by one. -/
theorem cm_sum {a b l : Int} {m : Nat} (hl : 0 < l) : ∀ r j : Nat, j + r = m → sf (fun i => one b l (a + i)) r j = cm (a + j) r b l := by
  intro r
  induction r with
  | zero =>
    intro j h
    show (0 : Int) = _
    unfold cm mx mn
    (repeat' split) <;> omega
  | succ r ih =>
    intro j h
    rw [sf, ih (j + 1) (by omega)]
    unfold one cm mx mn
    (repeat' split) <;> omega
theorem mod_end2 {n e b : Int} (h1 : 0 < e) (h2 : e ≤ n) (hb : 0 ≤ b) : (e % n = e ∧ e < n) ∨ (e % n = 0 ∧ e = n) := by
  by_cases h : e = n
  · subst h
    exact .inr ⟨Int.emod_self, rfl⟩
  · exact .inl ⟨Int.emod_eq_of_lt (by omega) (by omega), by omega⟩
theorem up_sum {n a b l : Int} {m : Nat} (h1 : Sp n a m) (h2 : Sp n b l) (hd : b + l ≤ a ∨ a + m ≤ b) : ∀ r j : Nat, j + r = m → sf (fun i => one b l ((a + i + 1) % n)) r j = if 0 < r ∧ (a + m) % n = b then 1 else 0 := by
  unfold Sp at h1 h2
  intro r
  induction r with
  | zero =>
    intro j h
    rw [if_neg (by omega)]
    rfl
  | succ r ih =>
    intro j h
    rw [sf, ih (j + 1) (by omega)]
    by_cases hr : r = 0
    · subst hr
      rw [if_neg (c := 0 < 0 ∧ _) (by omega), Int.add_zero, show a + (j : Int) + 1 = a + m by omega]
      unfold one
      rcases mod_end2 (n := n) (e := a + m) (b := b) (by omega) (by omega) (by omega) with ⟨e1, e2⟩ | ⟨e1, e2⟩
      · rw [e1]
        (repeat' split) <;> omega
      · rw [e1]
        (repeat' split) <;> omega
    · have e0 : one b l ((a + (j : Int) + 1) % n) = 0 := by
        rw [Int.emod_eq_of_lt (by omega) (by omega)]
        unfold one
        rw [if_neg (by omega)]
      rw [e0, Int.zero_add]
      by_cases q : (a + (m : Int)) % n = b
      · rw [if_pos ⟨by omega, q⟩, if_pos ⟨by omega, q⟩]
      · rw [if_neg (fun h => q h.2), if_neg (fun h => q h.2)]
theorem down_zero {n a b l : Int} {m : Nat} (h1 : Sp n a m) (h2 : Sp n b l) (hd : b + l ≤ a ∨ a + m ≤ b) : ∀ r j : Nat, j + r = m → 0 < j → sf (fun i => one b l ((a + i - 1) % n)) r j = 0 := by
  unfold Sp at h1 h2
  intro r
  induction r with
  | zero =>
    intro j h hj
    rfl
  | succ r ih =>
    intro j h hj
    rw [sf, ih (j + 1) (by omega) (by omega), Int.emod_eq_of_lt (by omega) (by omega)]
    unfold one
    rw [if_neg (by omega)]
    rfl
theorem down_sum {n a b l : Int} {m : Nat} (h1 : Sp n a m) (h2 : Sp n b l) (hd : b + l ≤ a ∨ a + m ≤ b) : sf (fun i => one b l ((a + i - 1) % n)) m 0 = if (b + l) % n = a then 1 else 0 := by
  have h1' := h1
  have h2' := h2
  unfold Sp at h1' h2'
  obtain ⟨r, rfl⟩ : ∃ r, m = r + 1 := ⟨m - 1, by omega⟩
  rw [sf, down_zero h1 h2 hd r 1 (by omega) (by decide), Int.add_zero]
  unfold one
  rcases mod_end2 (n := n) (e := b + l) (b := b) (by omega) (by omega) (by omega) with ⟨e1, e2⟩ | ⟨e1, e2⟩
  all_goals
    rw [e1]
    by_cases ha : a = 0
    · subst ha
      have e3 : ((0 : Int) + (0 : Nat) - 1) % n = n - 1 := by
        rw [show ((0 : Int) + (0 : Nat) - 1) = (n - 1) - n by omega, Int.sub_emod_right, Int.emod_eq_of_lt (by omega) (by omega)]
      rw [e3]
      (repeat' split) <;> omega
    · rw [Int.emod_eq_of_lt (by omega) (by omega)]
      (repeat' split) <;> omega
def tw (n : Int) : Int := if n = 2 then 0 else 1
theorem again_eq {n : Int} (hn : n = 2 ∨ n = 4 ∨ n = 8 ∨ n = 16) (x : Int) : ((x - 1) % n == (x + 1) % n) = decide (n = 2) := by
  rcases hn with rfl | rfl | rfl | rfl
  · rw [beq_iff_eq.mpr (show (x - 1) % 2 = (x + 1) % 2 by omega)]
    rfl
  · rw [beq_eq_false_iff_ne.mpr (show (x - 1) % 4 ≠ (x + 1) % 4 by omega)]
    rfl
  · rw [beq_eq_false_iff_ne.mpr (show (x - 1) % 8 ≠ (x + 1) % 8 by omega)]
    rfl
  · rw [beq_eq_false_iff_ne.mpr (show (x - 1) % 16 ≠ (x + 1) % 16 by omega)]
    rfl
theorem unl_tw (n v : Int) : unl (decide (n = 2)) v = tw n * v := by
  unfold unl tw
  by_cases h : n = 2
  · rw [decide_eq_true h, if_pos rfl, if_pos h, Int.zero_mul]
  · rw [decide_eq_false h, if_neg (by decide), if_neg h, Int.one_mul]
def ends (n b l x : Int) : Int := one b l ((x + 1) % n) + tw n * one b l ((x - 1) % n)
theorem gv_eq {n : Int} (hn : n = 2 ∨ n = 4 ∨ n = 8 ∨ n = 16) (z : R4) {x y : Int} (hx : 0 ≤ x ∧ x < n) (hy : 0 ≤ y ∧ y < n) :
    gv n z x y = ends n z.f0 z.f2 x * one z.f1 z.f3 y + one z.f0 z.f2 x * ends n z.f1 z.f3 y := by
  unfold gv ends
  rw [again_eq hn, again_eq hn, beq_self_eq_true, beq_self_eq_true, Bool.and_true, Bool.true_and, unl_tw, unl_tw, Int.emod_eq_of_lt hx.1 hx.2, Int.emod_eq_of_lt hy.1 hy.2]
  unfold hit
  rw [Int.add_mul, Int.mul_add, Int.mul_assoc, Int.mul_left_comm (one z.f0 z.f2 x) (tw n)]
  omega
theorem ends_sum {n a b l : Int} {m : Nat} (hn : n = 2 ∨ n = 4 ∨ n = 8 ∨ n = 16) (h1 : Sp n a m) (h2 : Sp n b l) (hc : ¬ cm a m b l > 0) : sf (fun i => ends n b l (a + i)) m 0 = sd n a m b l := by
  have h1' := h1
  have h2' := h2
  unfold Sp at h1' h2'
  have hd : b + l ≤ a ∨ a + m ≤ b := by
    unfold cm mx mn at hc
    (repeat' split at hc) <;> omega
  have e : sf (fun i => ends n b l (a + i)) m 0 = sf (fun i => one b l ((a + i + 1) % n)) m 0 + sf (fun i => tw n * one b l ((a + i - 1) % n)) m 0 := sf_add _ _ m 0
  rw [e, sf_mul, up_sum h1 h2 hd m 0 (by omega), down_sum h1 h2 hd]
  unfold sd Two One
  rw [if_neg hc]
  have hm : 0 < m := by omega
  unfold tw
  by_cases q1 : (a + (m : Int)) % n = b
  · by_cases q2 : (b + l) % n = a
    · simp only [q1, q2, hm, and_true, true_and, if_true, true_or, or_true]
      rcases hn with rfl | rfl | rfl | rfl <;> (repeat' split) <;> omega
    · simp only [q1, q2, hm, and_true, true_and, and_false, false_and, if_true, if_false, true_or, or_true, or_false]
      rcases hn with rfl | rfl | rfl | rfl <;> (repeat' split) <;> omega
  · by_cases q2 : (b + l) % n = a
    · simp only [q1, q2, hm, and_true, true_and, and_false, false_and, if_true, if_false, true_or, or_true, false_or]
      rcases hn with rfl | rfl | rfl | rfl <;> (repeat' split) <;> omega
    · simp only [q1, q2, hm, and_false, false_and, if_false, or_false]
      rcases hn with rfl | rfl | rfl | rfl <;> (repeat' split) <;> omega
theorem all_pairs {n : Int} (hn : n = 2 ∨ n = 4 ∨ n = 8 ∨ n = 16) {a b : Int} {w h : Nat} {q : R4} (s1 : Sp n a w) (s2 : Sp n b h) (s3 : Sp n q.f0 q.f2) (s4 : Sp n q.f1 q.f3) (ho : ¬ (cm a w q.f0 q.f2 > 0 ∧ cm b h q.f1 q.f3 > 0)) :
    sf (fun i => sf (fun j => gv n q (a + i) (b + j)) h 0) w 0 = sd n a w q.f0 q.f2 * cm b h q.f1 q.f3 + sd n b h q.f1 q.f3 * cm a w q.f0 q.f2 := by
  have s1' := s1
  have s2' := s2
  have s3' := s3
  have s4' := s4
  unfold Sp at s1' s2' s3' s4'
  have cx := cm_sum (a := a) (b := q.f0) (l := q.f2) (m := w) (by omega) w 0 (by omega)
  have cy := cm_sum (a := b) (b := q.f1) (l := q.f3) (m := h) (by omega) h 0 (by omega)
  rw [show a + ((0 : Nat) : Int) = a by omega] at cx
  rw [show b + ((0 : Nat) : Int) = b by omega] at cy
  have e1 : sf (fun i => sf (fun j => gv n q (a + i) (b + j)) h 0) w 0 = sf (fun i => ends n q.f0 q.f2 (a + i) * cm b h q.f1 q.f3 + one q.f0 q.f2 (a + i) * sf (fun j => ends n q.f1 q.f3 (b + j)) h 0) w 0 := by
    refine sf_congr w 0 (fun i _ hi => ?_)
    have e2 : sf (fun j => gv n q (a + i) (b + j)) h 0 = sf (fun j => ends n q.f0 q.f2 (a + i) * one q.f1 q.f3 (b + j) + one q.f0 q.f2 (a + i) * ends n q.f1 q.f3 (b + j)) h 0 :=
      sf_congr h 0 (fun j _ hj => gv_eq hn q (by omega) (by omega))
    rw [e2, sf_add, sf_mul, sf_mul, cy]
  rw [e1, sf_add, sf_mul_r, sf_mul_r, cx]
  have b1 := cm_bd s1 s3
  have b2 := cm_bd s2 s4
  by_cases c1 : cm a w q.f0 q.f2 > 0
  · have c2 : cm b h q.f1 q.f3 = 0 := by omega
    rw [ends_sum hn s2 s4 (by omega), c2, Int.mul_zero, Int.mul_zero, Int.mul_comm (cm a w q.f0 q.f2)]
  · have c2 : cm a w q.f0 q.f2 = 0 := by omega
    rw [ends_sum hn s1 s3 c1, c2, Int.mul_zero, Int.zero_mul]
theorem sd_comm (n a m b l : Int) : sd n a m b l = sd n b l a m := by
  have hc : cm a m b l = cm b l a m := by
    unfold cm mx mn
    (repeat' split) <;> omega
  have h2 : Two n a m b l ↔ Two n b l a m := by
    unfold Two
    exact ⟨fun ⟨x, y, z⟩ => ⟨y, x, z.symm⟩, fun ⟨x, y, z⟩ => ⟨y, x, z.symm⟩⟩
  have h3 : One n a m b l ↔ One n b l a m := by
    unfold One
    exact ⟨Or.symm, Or.symm⟩
  unfold sd
  rw [hc]
  simp only [h2, h3]
theorem cm_comm (a m b l : Int) : cm a m b l = cm b l a m := by
  unfold cm mx mn
  (repeat' split) <;> omega
theorem lnP_comm (K d b e c : Int) : lnP K d b e c = lnP K e c d b := by
  have hm : mt d b e c ↔ mt e c d b := ⟨Or.symm, Or.symm⟩
  unfold lnP
  by_cases h : PathOk K d b ∧ PathOk K e c ∧ ¬ mt d b e c
  · rw [if_pos h, if_pos ⟨h.2.1, h.1, fun q => h.2.2 (hm.mpr q)⟩]
    unfold ln
    rw [sd_comm, cm_comm, sd_comm _ (zone _ d b).f1, cm_comm (zone _ d b).f0]
  · rw [if_neg h, if_neg (fun q => h ⟨q.2.1, q.1, fun z => q.2.2 (hm.mp z)⟩)]
end Go.Proofs.Ytjdmnlbnaogcdaa.PC
