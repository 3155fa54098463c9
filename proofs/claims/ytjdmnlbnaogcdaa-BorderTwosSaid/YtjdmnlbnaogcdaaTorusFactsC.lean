/- What the torus' functions answer, as numbers: sides, masks, cells, distances, steps (plain facts on the printed functions). -/
import Derived.Test.YtjdmnlbnaogcdaaPCx1
namespace Go.Proofs.Ytjdmnlbnaogcdaa.PC
open Go.RowKit Go.Proofs.YtjdmnlbnaogcdaaW.PrintWords Go.Proofs.YtjdmnlbnaogcdaaW.PrintLast Go.Proofs.YtjdmnlbnaogcdaaW.PrintMore

/-- A torus that may be, and its side. -/
def OkT (K n : Int) : Prop := 1 ≤ K ∧ K ≤ 16 ∧ n = 2 ^ K.toNat
theorem okT_cases {K n : Int} (h : OkT K n) : (K = 1 ∧ n = 2) ∨ (K = 2 ∧ n = 4) ∨ (K = 3 ∧ n = 8) ∨ (K = 4 ∧ n = 16) ∨ (K = 5 ∧ n = 32) ∨ (K = 6 ∧ n = 64) ∨ (K = 7 ∧ n = 128) ∨ (K = 8 ∧ n = 256) ∨ (K = 9 ∧ n = 512) ∨ (K = 10 ∧ n = 1024) ∨ (K = 11 ∧ n = 2048) ∨ (K = 12 ∧ n = 4096) ∨ (K = 13 ∧ n = 8192) ∨ (K = 14 ∧ n = 16384) ∨ (K = 15 ∧ n = 32768) ∨ (K = 16 ∧ n = 65536) := by
  obtain ⟨h1, h2, rfl⟩ := h
  have : K = 1 ∨ K = 2 ∨ K = 3 ∨ K = 4 ∨ K = 5 ∨ K = 6 ∨ K = 7 ∨ K = 8 ∨ K = 9 ∨ K = 10 ∨ K = 11 ∨ K = 12 ∨ K = 13 ∨ K = 14 ∨ K = 15 ∨ K = 16 := by omega
  rcases this with rfl | rfl | rfl | rfl | rfl | rfl | rfl | rfl | rfl | rfl | rfl | rfl | rfl | rfl | rfl | rfl <;> decide
theorem okT_bd {K n : Int} (h : OkT K n) : 1 ≤ K ∧ K ≤ 16 ∧ 2 ≤ n ∧ n ≤ 65536 ∧ n % 2 = 0 := by
  rcases okT_cases h with ⟨rfl, rfl⟩ | ⟨rfl, rfl⟩ | ⟨rfl, rfl⟩ | ⟨rfl, rfl⟩ | ⟨rfl, rfl⟩ | ⟨rfl, rfl⟩ | ⟨rfl, rfl⟩ | ⟨rfl, rfl⟩ | ⟨rfl, rfl⟩ | ⟨rfl, rfl⟩ | ⟨rfl, rfl⟩ | ⟨rfl, rfl⟩ | ⟨rfl, rfl⟩ | ⟨rfl, rfl⟩ | ⟨rfl, rfl⟩ | ⟨rfl, rfl⟩ <;> decide
theorem and_mask (x : Int) (m : Nat) (hm : m ≤ 62) : Go.bits .and .i64 x (2 ^ m - 1) = x % 2 ^ m := by
  have hp : (2 : Nat) ^ m ≤ 2 ^ 62 := Nat.pow_le_pow_right (by decide) hm
  have hpos : 0 < (2 : Nat) ^ m := Nat.pow_pos (by decide)
  have hc : ((2 : Int) ^ m - 1) = ((2 ^ m - 1 : Nat) : Int) := by
    rw [Int.natCast_sub (by omega)]
    simp
  have h127 : (BitVec.ofInt 64 ((2 : Int) ^ m - 1)).toNat = 2 ^ m - 1 := by
    rw [hc, BitVec.ofInt_natCast, BitVec.toNat_ofNat]
    exact Nat.mod_eq_of_lt (by omega)
  have key : (BitVec.ofInt 64 x &&& BitVec.ofInt 64 ((2 : Int) ^ m - 1)).toNat = (x % ((2 ^ 64 : Nat) : Int)).toNat % 2 ^ m := by
    rw [BitVec.toNat_and, BitVec.toNat_ofInt, h127, Nat.and_two_pow_sub_one_eq_mod]
  show IntKind.i64.wrap ((BitVec.ofInt 64 x &&& BitVec.ofInt 64 ((2 : Int) ^ m - 1)).toNat : Nat) = x % 2 ^ m
  rw [key, IntKind.wrap_i64]
  have hd : ((2 : Int) ^ m) ∣ ((2 ^ 64 : Nat) : Int) := by
    refine ⟨2 ^ (64 - m), ?_⟩
    rw [← Int.pow_add]
    have : m + (64 - m) = 64 := by omega
    rw [this]
    decide
  have h1 : (((x % ((2 ^ 64 : Nat) : Int)).toNat % 2 ^ m : Nat) : Int) = x % 2 ^ m := by
    have h0 : 0 ≤ x % ((2 ^ 64 : Nat) : Int) := Int.emod_nonneg _ (by decide)
    rw [Int.natCast_emod, Int.toNat_of_nonneg h0, Int.natCast_pow]
    exact Int.emod_emod_of_dvd x hd
  rw [h1]
  have h2 : 0 ≤ x % 2 ^ m := Int.emod_nonneg _ (Int.ne_of_gt (Int.pow_pos (by decide)))
  have h3 : x % 2 ^ m < 2 ^ m := Int.emod_lt_of_pos _ (Int.pow_pos (by decide))
  have h4 : (2 : Int) ^ m ≤ 4611686018427387904 := by
    have : (((2 : Nat) ^ m : Nat) : Int) ≤ ((2 ^ 62 : Nat) : Int) := Int.ofNat_le.2 hp
    rw [Int.natCast_pow] at this
    exact this
  omega
theorem okT_mask {K n : Int} (h : OkT K n) (x : Int) : Go.bits .and .i64 x (n - 1) = x % n := by
  obtain ⟨h1, h2, rfl⟩ := h
  exact and_mask x K.toNat (by omega)
theorem ok_eq (K : Int) : torus_Torus_ok.f K = some (decide (1 ≤ K ∧ K ≤ 16)) := by
  unfold torus_Torus_ok.f
  by_cases h1 : K ≥ 1 <;> simp [h1]
  all_goals omega
theorem side_eq {K n : Int} (h : OkT K n) : torus_Torus_Side.f K = some n := by
  unfold torus_Torus_Side.f
  rw [ok_eq]
  rcases okT_cases h with ⟨rfl, rfl⟩ | ⟨rfl, rfl⟩ | ⟨rfl, rfl⟩ | ⟨rfl, rfl⟩ | ⟨rfl, rfl⟩ | ⟨rfl, rfl⟩ | ⟨rfl, rfl⟩ | ⟨rfl, rfl⟩ | ⟨rfl, rfl⟩ | ⟨rfl, rfl⟩ | ⟨rfl, rfl⟩ | ⟨rfl, rfl⟩ | ⟨rfl, rfl⟩ | ⟨rfl, rfl⟩ | ⟨rfl, rfl⟩ | ⟨rfl, rfl⟩ <;> rfl
theorem side_no {K : Int} (h : ¬ (1 ≤ K ∧ K ≤ 16)) : torus_Torus_Side.f K = some 0 := by
  unfold torus_Torus_Side.f
  rw [ok_eq, decide_eq_false h]
  rfl
theorem okT_of {K : Int} (h : 1 ≤ K ∧ K ≤ 16) : OkT K (2 ^ K.toNat) := ⟨h.1, h.2, rfl⟩
theorem mask_eq {K n : Int} (h : OkT K n) : torus_Torus_mask.f K = some (n - 1) := by
  unfold torus_Torus_mask.f
  rw [side_eq h]
  have := okT_bd h
  simp only [Option.bind_some]
  unfold wrap64
  congr 1
  omega
theorem in_eq {K n : Int} (h : OkT K n) (a : Int) : torus_Torus_in.f K a = some (decide (0 ≤ a ∧ a < n)) := by
  unfold torus_Torus_in.f
  rw [side_eq h]
  by_cases h1 : a ≥ 0
  · rw [if_pos h1]
    simp [h1]
  · rw [if_neg h1]
    simp
    omega
theorem in_no {K : Int} (h : ¬ (1 ≤ K ∧ K ≤ 16)) (a : Int) : torus_Torus_in.f K a = some false := by
  unfold torus_Torus_in.f
  rw [side_no h]
  by_cases h1 : a ≥ 0
  · rw [if_pos h1]
    simp
    omega
  · rw [if_neg h1]
theorem has_eq {K n : Int} (h : OkT K n) (x y : Int) : torus_Torus_Has.f K x y = some (decide (0 ≤ x ∧ x < n ∧ 0 ≤ y ∧ y < n)) := by
  unfold torus_Torus_Has.f
  rw [in_eq h, in_eq h]
  by_cases h1 : 0 ≤ x ∧ x < n
  · simp [h1]
  · rw [decide_eq_false h1]
    simp
    omega
theorem has_yes {K n x y : Int} (h : OkT K n) (hx : 0 ≤ x ∧ x < n) (hy : 0 ≤ y ∧ y < n) : torus_Torus_Has.f K x y = some true := by
  rw [has_eq h, decide_eq_true ⟨hx.1, hx.2, hy.1, hy.2⟩]
theorem has_no {K : Int} (h : ¬ (1 ≤ K ∧ K ≤ 16)) (x y : Int) : torus_Torus_Has.f K x y = some false := by
  unfold torus_Torus_Has.f
  rw [in_no h]
  rfl
theorem mod_in {n : Int} (h : 2 ≤ n) (x : Int) : 0 ≤ x % n ∧ x % n < n := ⟨Int.emod_nonneg _ (by omega), Int.emod_lt_of_pos _ (by omega)⟩
/-- How far two numbers of a side are. -/
def ap (n a b : Int) : Int := mn ((b - a) % n) (n - (b - a) % n)
/-- What is taken off a number of (-n, n): itself, or itself and n. -/
theorem mod_diff {n d : Int} (_hn : 2 ≤ n) (h1 : -n < d) (h2 : d < n) : (0 ≤ d ∧ d % n = d) ∨ (d < 0 ∧ d % n = d + n) := by
  by_cases h : 0 ≤ d
  · exact .inl ⟨h, Int.emod_eq_of_lt h h2⟩
  · refine .inr ⟨by omega, ?_⟩
    rw [← Int.add_emod_right]
    exact Int.emod_eq_of_lt (by omega) (by omega)
theorem wrap64_small {x : Int} (h1 : -9223372036854775808 ≤ x) (h2 : x ≤ 9223372036854775807) : wrap64 x = x := by
  unfold wrap64
  omega
theorem apart_eq {K n a b : Int} (h : OkT K n) (k : Nat) (ha : 0 ≤ a ∧ a < n) (hb : 0 ≤ b ∧ b < n) : torus_Torus_Apart.f (k + 1) K a b = some (ap n a b) := by
  have hd := okT_bd h
  unfold torus_Torus_Apart.f
  rw [in_eq h, in_eq h, decide_eq_true ha, decide_eq_true hb]
  simp only [Option.bind_some, if_true, torus_Torus_Apart.j0, Bool.not_true]
  rw [if_neg (by decide), mask_eq h, side_eq h]
  simp only [Option.bind_some]
  rw [wrap64_small (by omega) (by omega), okT_mask h]
  have := mod_in (n := n) (by omega) (b - a)
  rw [wrap64_small (by omega) (by omega)]
  rfl
theorem apart_no {K n a b : Int} (h : OkT K n) (k : Nat) (hab : ¬ ((0 ≤ a ∧ a < n) ∧ (0 ≤ b ∧ b < n))) : torus_Torus_Apart.f (k + 1) K a b = some (-1) := by
  unfold torus_Torus_Apart.f
  rw [in_eq h, in_eq h]
  by_cases ha : 0 ≤ a ∧ a < n
  · rw [decide_eq_true ha, decide_eq_false (fun hb => hab ⟨ha, hb⟩)]
    simp [torus_Torus_Apart.j0]
  · rw [decide_eq_false ha]
    simp [torus_Torus_Apart.j0]
theorem ap_bd {n a b : Int} (hn : 2 ≤ n) : 0 ≤ ap n a b ∧ 2 * ap n a b ≤ n := by
  have := mod_in hn (b - a)
  unfold ap mn
  split <;> omega
end Go.Proofs.Ytjdmnlbnaogcdaa.PC
