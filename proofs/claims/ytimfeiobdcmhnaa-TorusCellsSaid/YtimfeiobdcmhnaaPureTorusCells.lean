/- TorusCells: sides, cells, moves, numbers of any torus: as the document says. -/
import Derived.Test.YtimfeiobdcmhnaaPUx3
import Derived.Test.YtimfeiobdcmhnaaPUx4
import Derived.Test.YtimfeiobdcmhnaaPUx7
import Derived.Test.YtimfeiobdcmhnaaPUx5
import Derived.Test.YtimfeiobdcmhnaaPUx6
import Derived.Test.YtimfeiobdcmhnaaPUx8
import Derived.Test.YtimfeiobdcmhnaaPUx17
import Derived.Test.YtimfeiobdcmhnaaPUx14
import Derived.Test.YtimfeiobdcmhnaaPUx19
import Derived.Test.YtimfeiobdcmhnaaPUx20
import Derived.Test.YtimfeiobdcmhnaaPUx21
import Derived.Test.YtimfeiobdcmhnaaPUx18
import Derived.Test.YtimfeiobdcmhnaaPUx22
import Derived.Test.YtimfeiobdcmhnaaPUx23
import Derived.Test.YtimfeiobdcmhnaaPUx24
import Derived.Test.YtimfeiobdcmhnaaPUx26
import Derived.Test.YtimfeiobdcmhnaaPUx27
import Derived.Test.YtimfeiobdcmhnaaPUx28
import Derived.Test.YtimfeiobdcmhnaaPUx29
import Derived.Test.YtimfeiobdcmhnaaPUx25
import Derived.Test.YtimfeiobdcmhnaaPUx15
import Derived.Test.YtimfeiobdcmhnaaPUx12
import Derived.Test.YtimfeiobdcmhnaaPUx16
import Derived.Test.YtimfeiobdcmhnaaPUx30
import Derived.Test.YtimfeiobdcmhnaaStTorusCells
namespace Go.Proofs.Ytimfeiobdcmhnaa.PU
open Go.RowKit Go.Proofs.YtimfeiobdcmhnaaW.PrintWords Go.Proofs.YtimfeiobdcmhnaaW.PrintLast Go.Proofs.YtimfeiobdcmhnaaW.PrintMore

/-- A torus that may be, and its side. -/
def OkT (K n : Int) : Prop := 1 ≤ K ∧ K ≤ 16 ∧ n = 2 ^ K.toNat
theorem okT_cases {K n : Int} (h : OkT K n) : (K = 1 ∧ n = 2) ∨ (K = 2 ∧ n = 4) ∨ (K = 3 ∧ n = 8) ∨ (K = 4 ∧ n = 16) ∨ (K = 5 ∧ n = 32) ∨ (K = 6 ∧ n = 64) ∨ (K = 7 ∧ n = 128) ∨ (K = 8 ∧ n = 256) ∨ (K = 9 ∧ n = 512) ∨ (K = 10 ∧ n = 1024) ∨ (K = 11 ∧ n = 2048) ∨ (K = 12 ∧ n = 4096) ∨ (K = 13 ∧ n = 8192) ∨ (K = 14 ∧ n = 16384) ∨ (K = 15 ∧ n = 32768) ∨ (K = 16 ∧ n = 65536) := by
  obtain ⟨h1, h2, rfl⟩ := h
  have : K = 1 ∨ K = 2 ∨ K = 3 ∨ K = 4 ∨ K = 5 ∨ K = 6 ∨ K = 7 ∨ K = 8 ∨ K = 9 ∨ K = 10 ∨ K = 11 ∨ K = 12 ∨ K = 13 ∨ K = 14 ∨ K = 15 ∨ K = 16 := by omega
  rcases this with rfl | rfl | rfl | rfl | rfl | rfl | rfl | rfl | rfl | rfl | rfl | rfl | rfl | rfl | rfl | rfl <;> decide
theorem okT_bd {K n : Int} (h : OkT K n) : 1 ≤ K ∧ K ≤ 16 ∧ 2 ≤ n ∧ n ≤ 65536 ∧ n % 2 = 0 := by
  rcases okT_cases h with ⟨rfl, rfl⟩ | ⟨rfl, rfl⟩ | ⟨rfl, rfl⟩ | ⟨rfl, rfl⟩ | ⟨rfl, rfl⟩ | ⟨rfl, rfl⟩ | ⟨rfl, rfl⟩ | ⟨rfl, rfl⟩ | ⟨rfl, rfl⟩ | ⟨rfl, rfl⟩ | ⟨rfl, rfl⟩ | ⟨rfl, rfl⟩ | ⟨rfl, rfl⟩ | ⟨rfl, rfl⟩ | ⟨rfl, rfl⟩ | ⟨rfl, rfl⟩ <;> decide
theorem and_mask (x : Int) (m : Nat) (hm : m ≤ 62) : Go.bits .and .i64 x (2 ^ m - 1) = x % 2 ^ m := by
  have hp : (2 : Nat) ^ m ≤ 2 ^ 62 := Nat.pow_le_pow_right (by decide) hm
  have hpos : 0 < (2 : Nat) ^ m := Nat.pow_pos (by decide)
  have hc : ((2 : Int) ^ m - 1) = ((2 ^ m - 1 : Nat) : Int) := by
    rw [Int.natCast_sub (by omega)]
    simp
  have h127 : (BitVec.ofInt 64 ((2 : Int) ^ m - 1)).toNat = 2 ^ m - 1 := by
    rw [hc, BitVec.ofInt_natCast, BitVec.toNat_ofNat]
    exact Nat.mod_eq_of_lt (by omega)
  have key : (BitVec.ofInt 64 x &&& BitVec.ofInt 64 ((2 : Int) ^ m - 1)).toNat = (x % ((2 ^ 64 : Nat) : Int)).toNat % 2 ^ m := by
    rw [BitVec.toNat_and, BitVec.toNat_ofInt, h127, Nat.and_two_pow_sub_one_eq_mod]
  show IntKind.i64.wrap ((BitVec.ofInt 64 x &&& BitVec.ofInt 64 ((2 : Int) ^ m - 1)).toNat : Nat) = x % 2 ^ m
  rw [key, IntKind.wrap_i64]
  have hd : ((2 : Int) ^ m) ∣ ((2 ^ 64 : Nat) : Int) := by
    refine ⟨2 ^ (64 - m), ?_⟩
    rw [← Int.pow_add]
    have : m + (64 - m) = 64 := by omega
    rw [this]
    decide
  have h1 : (((x % ((2 ^ 64 : Nat) : Int)).toNat % 2 ^ m : Nat) : Int) = x % 2 ^ m := by
    have h0 : 0 ≤ x % ((2 ^ 64 : Nat) : Int) := Int.emod_nonneg _ (by decide)
    rw [Int.natCast_emod, Int.toNat_of_nonneg h0, Int.natCast_pow]
    exact Int.emod_emod_of_dvd x hd
  rw [h1]
  have h2 : 0 ≤ x % 2 ^ m := Int.emod_nonneg _ (Int.ne_of_gt (Int.pow_pos (by decide)))
  have h3 : x % 2 ^ m < 2 ^ m := Int.emod_lt_of_pos _ (Int.pow_pos (by decide))
  have h4 : (2 : Int) ^ m ≤ 4611686018427387904 := by
    have : (((2 : Nat) ^ m : Nat) : Int) ≤ ((2 ^ 62 : Nat) : Int) := Int.ofNat_le.2 hp
    rw [Int.natCast_pow] at this
    exact this
  omega
theorem okT_mask {K n : Int} (h : OkT K n) (x : Int) : Go.bits .and .i64 x (n - 1) = x % n := by
  obtain ⟨h1, h2, rfl⟩ := h
  exact and_mask x K.toNat (by omega)
theorem ok_eq (K : Int) : torus_Torus_ok.f K = some (decide (1 ≤ K ∧ K ≤ 16)) := by
  unfold torus_Torus_ok.f
  by_cases h1 : K ≥ 1 <;> simp [h1]
  all_goals omega
theorem side_eq {K n : Int} (h : OkT K n) : torus_Torus_Side.f K = some n := by
  unfold torus_Torus_Side.f
  rw [ok_eq]
  rcases okT_cases h with ⟨rfl, rfl⟩ | ⟨rfl, rfl⟩ | ⟨rfl, rfl⟩ | ⟨rfl, rfl⟩ | ⟨rfl, rfl⟩ | ⟨rfl, rfl⟩ | ⟨rfl, rfl⟩ | ⟨rfl, rfl⟩ | ⟨rfl, rfl⟩ | ⟨rfl, rfl⟩ | ⟨rfl, rfl⟩ | ⟨rfl, rfl⟩ | ⟨rfl, rfl⟩ | ⟨rfl, rfl⟩ | ⟨rfl, rfl⟩ | ⟨rfl, rfl⟩ <;> rfl
theorem side_no {K : Int} (h : ¬ (1 ≤ K ∧ K ≤ 16)) : torus_Torus_Side.f K = some 0 := by
  unfold torus_Torus_Side.f
  rw [ok_eq, decide_eq_false h]
  rfl
theorem okT_of {K : Int} (h : 1 ≤ K ∧ K ≤ 16) : OkT K (2 ^ K.toNat) := ⟨h.1, h.2, rfl⟩
theorem mask_eq {K n : Int} (h : OkT K n) : torus_Torus_mask.f K = some (n - 1) := by
  unfold torus_Torus_mask.f
  rw [side_eq h]
  have := okT_bd h
  simp only [Option.bind_some]
  unfold wrap64
  congr 1
  omega
theorem in_eq {K n : Int} (h : OkT K n) (a : Int) : torus_Torus_in.f K a = some (decide (0 ≤ a ∧ a < n)) := by
  unfold torus_Torus_in.f
  rw [side_eq h]
  by_cases h1 : a ≥ 0
  · rw [if_pos h1]
    simp [h1]
  · rw [if_neg h1]
    simp
    omega
theorem in_no {K : Int} (h : ¬ (1 ≤ K ∧ K ≤ 16)) (a : Int) : torus_Torus_in.f K a = some false := by
  unfold torus_Torus_in.f
  rw [side_no h]
  by_cases h1 : a ≥ 0
  · rw [if_pos h1]
    simp
    omega
  · rw [if_neg h1]
theorem has_eq {K n : Int} (h : OkT K n) (x y : Int) : torus_Torus_Has.f K x y = some (decide (0 ≤ x ∧ x < n ∧ 0 ≤ y ∧ y < n)) := by
  unfold torus_Torus_Has.f
  rw [in_eq h, in_eq h]
  by_cases h1 : 0 ≤ x ∧ x < n
  · simp [h1]
  · rw [decide_eq_false h1]
    simp
    omega
theorem has_yes {K n x y : Int} (h : OkT K n) (hx : 0 ≤ x ∧ x < n) (hy : 0 ≤ y ∧ y < n) : torus_Torus_Has.f K x y = some true := by
  rw [has_eq h, decide_eq_true ⟨hx.1, hx.2, hy.1, hy.2⟩]
theorem has_no {K : Int} (h : ¬ (1 ≤ K ∧ K ≤ 16)) (x y : Int) : torus_Torus_Has.f K x y = some false := by
  unfold torus_Torus_Has.f
  rw [in_no h]
  rfl
theorem mod_in {n : Int} (h : 2 ≤ n) (x : Int) : 0 ≤ x % n ∧ x % n < n := ⟨Int.emod_nonneg _ (by omega), Int.emod_lt_of_pos _ (by omega)⟩
/-- How far two numbers of a side are. -/
def ap (n a b : Int) : Int := mn ((b - a) % n) (n - (b - a) % n)
/-- What is taken off a number of (-n, n): itself, or itself and n. -/
theorem mod_diff {n d : Int} (_hn : 2 ≤ n) (h1 : -n < d) (h2 : d < n) : (0 ≤ d ∧ d % n = d) ∨ (d < 0 ∧ d % n = d + n) := by
  by_cases h : 0 ≤ d
  · exact .inl ⟨h, Int.emod_eq_of_lt h h2⟩
  · refine .inr ⟨by omega, ?_⟩
    rw [← Int.add_emod_right]
    exact Int.emod_eq_of_lt (by omega) (by omega)
theorem wrap64_small {x : Int} (h1 : -9223372036854775808 ≤ x) (h2 : x ≤ 9223372036854775807) : wrap64 x = x := by
  unfold wrap64
  omega
theorem apart_eq {K n a b : Int} (h : OkT K n) (k : Nat) (ha : 0 ≤ a ∧ a < n) (hb : 0 ≤ b ∧ b < n) : torus_Torus_Apart.f (k + 1) K a b = some (ap n a b) := by
  have hd := okT_bd h
  unfold torus_Torus_Apart.f
  rw [in_eq h, in_eq h, decide_eq_true ha, decide_eq_true hb]
  simp only [Option.bind_some, if_true, torus_Torus_Apart.j0, Bool.not_true]
  rw [if_neg (by decide), mask_eq h, side_eq h]
  simp only [Option.bind_some]
  rw [wrap64_small (by omega) (by omega), okT_mask h]
  have := mod_in (n := n) (by omega) (b - a)
  rw [wrap64_small (by omega) (by omega)]
  rfl
theorem apart_no {K n a b : Int} (h : OkT K n) (k : Nat) (hab : ¬ ((0 ≤ a ∧ a < n) ∧ (0 ≤ b ∧ b < n))) : torus_Torus_Apart.f (k + 1) K a b = some (-1) := by
  unfold torus_Torus_Apart.f
  rw [in_eq h, in_eq h]
  by_cases ha : 0 ≤ a ∧ a < n
  · rw [decide_eq_true ha, decide_eq_false (fun hb => hab ⟨ha, hb⟩)]
    simp [torus_Torus_Apart.j0]
  · rw [decide_eq_false ha]
    simp [torus_Torus_Apart.j0]
theorem ap_bd {n a b : Int} (hn : 2 ≤ n) : 0 ≤ ap n a b ∧ 2 * ap n a b ≤ n := by
  have := mod_in hn (b - a)
  unfold ap mn
  split <;> omega
end Go.Proofs.Ytimfeiobdcmhnaa.PU
namespace Go.Proofs.Ytimfeiobdcmhnaa.PU
open Go.RowKit Go.Proofs.YtimfeiobdcmhnaaW.PrintWords Go.Proofs.YtimfeiobdcmhnaaW.PrintLast Go.Proofs.YtimfeiobdcmhnaaW.PrintMore
set_option linter.unusedVariables false
theorem wrap_eq {K n : Int} (h : OkT K n) (x y : Int) : torus_Torus_Wrap.f K x y = some (x % n, y % n) := by
  unfold torus_Torus_Wrap.f
  rw [ok_eq, mask_eq h, decide_eq_true ⟨h.1, h.2.1⟩]
  simp only [Option.bind_some, if_true]
  rw [okT_mask h, okT_mask h]
theorem wrap_no {K : Int} (h : ¬ (1 ≤ K ∧ K ≤ 16)) (x y : Int) : torus_Torus_Wrap.f K x y = some (0, 0) := by
  unfold torus_Torus_Wrap.f
  rw [ok_eq, decide_eq_false h]
  rfl
end Go.Proofs.Ytimfeiobdcmhnaa.PU
namespace Go.Proofs.Ytimfeiobdcmhnaa.PU
open Go.RowKit Go.Proofs.YtimfeiobdcmhnaaW.PrintWords Go.Proofs.YtimfeiobdcmhnaaW.PrintLast Go.Proofs.YtimfeiobdcmhnaaW.PrintMore
theorem ring_eq {K n x y d : Int} (h : OkT K n) (hx : 0 ≤ x ∧ x < n) (hy : 0 ≤ y ∧ y < n) : torus_Torus_Ring.f K x y d = some (if 0 ≤ d ∧ d ≤ n then ringSum (n / 2) d (n / 2 + 1).toNat else 0) := by
  unfold torus_Torus_Ring.f
  rw [side_eq h, has_yes h hx hy]
  simp only [Option.bind_some, true_and]
  split <;> rfl
theorem sq_bd {n : Int} (h1 : 2 ≤ n) (h2 : n ≤ 65536) : 4 ≤ n * n ∧ n * n ≤ 4294967296 := by
  have a1 : 2 * 2 ≤ n * n := Int.mul_le_mul h1 h1 (by decide) (by omega)
  have a2 : n * n ≤ 65536 * 65536 := Int.mul_le_mul h2 h2 (by omega) (by decide)
  omega
theorem area_eq {K n : Int} (h : OkT K n) : torus_Torus_Area.f K = some (n * n) := by
  have hd := okT_bd h
  have hs := sq_bd hd.2.2.1 hd.2.2.2.1
  unfold torus_Torus_Area.f
  rw [side_eq h]
  simp only [Option.bind_some]
  rw [wrap64_small (by omega) (by omega)]
theorem okT_shr {K n : Int} (h : OkT K n) (x : Int) : shr .i64 x K = x / n := by
  have hd := okT_bd h
  obtain ⟨_, _, rfl⟩ := h
  unfold shr
  rw [Nat.min_eq_left (by simp [IntKind.bits]; omega)]
theorem okT_shl {K n : Int} (h : OkT K n) {x : Int} (h1 : -65536 ≤ x) (h2 : x ≤ 65536) : shl .i64 x K = x * n := by
  have hd := okT_bd h
  have e1 : x * n ≤ 65536 * n := Int.mul_le_mul_of_nonneg_right h2 (by omega)
  have e2 : -65536 * n ≤ x * n := Int.mul_le_mul_of_nonneg_right h1 (by omega)
  obtain ⟨_, _, rfl⟩ := h
  unfold shl
  rw [Nat.min_eq_left (by simp [IntKind.bits]; omega), IntKind.wrap_i64]
  omega
theorem cell_eq {K n i : Int} (h : OkT K n) (hi : 0 ≤ i ∧ i < n * n) : torus_Torus_Cell.f K i = some (i % n, i / n, 0) := by
  have hd := okT_bd h
  unfold torus_Torus_Cell.f
  rw [if_neg (by omega), area_eq h, mask_eq h]
  simp only [Option.bind_some]
  rw [if_neg (by omega), if_pos (by omega), okT_mask h, okT_shr h]
theorem cell_no {K n i : Int} (h : OkT K n) (hi : ¬ (0 ≤ i ∧ i < n * n)) : torus_Torus_Cell.f K i = some (0, 0, 1) := by
  unfold torus_Torus_Cell.f
  by_cases h0 : i < 0
  · rw [if_pos h0]
  · rw [if_neg h0, area_eq h]
    simp only [Option.bind_some]
    rw [if_pos (by omega)]
theorem or_join {K n x y : Int} (h : OkT K n) (hx : 0 ≤ x ∧ x < n) (hy : 0 ≤ y ∧ y < n) : Go.bits .or .i64 (y * n) x = y * n + x := by
  have hd := okT_bd h
  have e1 : y * n ≤ 65536 * 65536 := Int.mul_le_mul (by omega) (by omega) (by omega) (by decide)
  have e2 : 0 ≤ y * n := Int.mul_nonneg (by omega) (by omega)
  obtain ⟨_, _, rfl⟩ := h
  refine bits_join .i64 62 (by decide) (fun m h0 h1 => ?_) K.toNat (y * 2 ^ K.toNat) x e2 (Int.mul_emod_left _ _) ?_ hx.1 hx.2 ?_
  · rw [IntKind.wrap_i64]
    have : (2 : Int) ^ 62 = 4611686018427387904 := by decide
    omega
  · have : (2 : Int) ^ 62 = 4611686018427387904 := by decide
    omega
  · have : (2 : Int) ^ 62 = 4611686018427387904 := by decide
    omega
theorem number_eq {K n x y : Int} (h : OkT K n) (hx : 0 ≤ x ∧ x < n) (hy : 0 ≤ y ∧ y < n) : torus_Torus_Number.f K x y = some (y * n + x, 0) := by
  have hd := okT_bd h
  unfold torus_Torus_Number.f
  rw [has_yes h hx hy]
  simp only [Option.bind_some, if_true]
  rw [if_pos (by omega), okT_shl h (by omega) (by omega), or_join h hx hy]
end Go.Proofs.Ytimfeiobdcmhnaa.PU
namespace Go.Proofs.Ytimfeiobdcmhnaa.PU
open Go.RowKit Go.Proofs.YtimfeiobdcmhnaaW.PrintWords Go.Proofs.YtimfeiobdcmhnaaW.PrintLast Go.Proofs.YtimfeiobdcmhnaaW.PrintMore
theorem rright_eq (K : Int) : gleberef02_Right.f K = some (decide (1 ≤ K ∧ K ≤ 16)) := by
  unfold gleberef02_Right.f
  by_cases h1 : K ≥ 1 <;> simp [h1]
  all_goals omega
theorem rside_l0 : ∀ (m k x i : Nat), x * 2 ^ m ≤ 65536 → i + m ≤ 16 → gleberef02_Side.l0 (k + m + 1) ((i + m : Nat) : Int) (x : Int) (i : Int) = some ((x * 2 ^ m : Nat) : Int)
  | 0, k, x, i, _, _ => by
    rw [gleberef02_Side.l0, if_neg (by omega)]
    simp
  | m + 1, k, x, i, hx, hi => by
    have e : x * 2 ^ (m + 1) = x * 2 * 2 ^ m := by rw [Nat.pow_succ, Nat.mul_comm (2 ^ m) 2, Nat.mul_assoc]
    have hp : 1 ≤ 2 ^ m := Nat.pow_pos (by decide)
    have hx2 : x * 2 ≤ x * 2 * 2 ^ m := Nat.le_mul_of_pos_right _ hp
    rw [e] at hx ⊢
    have h1 : wrap64 ((x : Int) * 2) = ((x * 2 : Nat) : Int) := (wrap64_small (by omega) (by omega)).trans (by omega)
    have h2 : wrap64 ((i : Int) + 1) = ((i + 1 : Nat) : Int) := (wrap64_small (by omega) (by omega)).trans (by omega)
    have h := rside_l0 m k (x * 2) (i + 1) hx (by clear h1 h2; omega)
    rw [gleberef02_Side.l0, if_pos (by clear h1 h2; omega), h1, h2, show i + (m + 1) = i + 1 + m by clear h1 h2; omega]
    exact h
theorem rside_eq {K n : Int} (h : OkT K n) (k : Nat) : gleberef02_Side.f (k + 18) K = some n := by
  obtain ⟨h1, h2, rfl⟩ := h
  obtain ⟨m, rfl⟩ := Int.eq_ofNat_of_zero_le (show 0 ≤ K by omega)
  have hm : m ≤ 16 := by omega
  have hp : 2 ^ m ≤ 2 ^ 16 := Nat.pow_le_pow_right (by decide) hm
  unfold gleberef02_Side.f
  rw [rright_eq, decide_eq_true ⟨h1, h2⟩, Option.bind_some, if_pos rfl]
  have q := rside_l0 m (k + 17 - m) 1 0 (by omega) (by omega)
  rw [show k + 17 - m + m + 1 = k + 18 by omega] at q
  simp only [Nat.zero_add, Nat.one_mul] at q
  rw [Int.toNat_natCast]
  refine q.trans ?_
  rw [Int.natCast_pow]
  rfl
theorem rside_no {K : Int} (h : ¬ (1 ≤ K ∧ K ≤ 16)) (k : Nat) : gleberef02_Side.f k K = some 0 := by
  unfold gleberef02_Side.f
  rw [rright_eq, decide_eq_false h]
  rfl
theorem down_eq {n : Int} (h1 : 2 ≤ n) (h2 : n ≤ 65536) (x : Int) : gleberef02_down.f x n = some (x % n) := by
  have hm := mod_in h1 x
  unfold gleberef02_down.f
  rw [if_neg (by omega), Int.tmod_eq_emod]
  by_cases q : 0 ≤ x ∨ n ∣ x
  · rw [if_pos q, if_neg (by omega)]
    congr 1
    omega
  · rw [if_neg q, if_pos (by omega), wrap64_small (by omega) (by omega)]
    congr 1
    omega
theorem rhas_eq {K n : Int} (h : OkT K n) (k : Nat) (x y : Int) : gleberef02_Has.f (k + 18) K x y = some (decide (0 ≤ x ∧ x < n ∧ 0 ≤ y ∧ y < n)) := by
  unfold gleberef02_Has.f
  rw [rside_eq h, Option.bind_some]
  by_cases h1 : x ≥ 0
  · by_cases h2 : x < n
    · by_cases h3 : y ≥ 0
      · rw [if_pos h1, if_pos h2, if_pos h3]
        congr 1
        simp only [decide_eq_decide]
        omega
      · rw [if_pos h1, if_pos h2, if_neg h3, decide_eq_false (by omega)]
    · rw [if_pos h1, if_neg h2, decide_eq_false (by omega)]
  · rw [if_neg h1, decide_eq_false (by omega)]
theorem rhas_no {K : Int} (h : ¬ (1 ≤ K ∧ K ≤ 16)) (k : Nat) (x y : Int) : gleberef02_Has.f k K x y = some false := by
  unfold gleberef02_Has.f
  rw [rside_no h, Option.bind_some]
  by_cases h1 : x ≥ 0
  · rw [if_pos h1, if_neg (by omega)]
  · rw [if_neg h1]
theorem rwrap_eq {K n : Int} (h : OkT K n) (k : Nat) (x y : Int) : gleberef02_Wrap.f (k + 18) K x y = some (x % n, y % n) := by
  have hd := okT_bd h
  unfold gleberef02_Wrap.f
  rw [rright_eq, decide_eq_true ⟨h.1, h.2.1⟩, Option.bind_some, if_pos rfl, rside_eq h]
  simp only [Option.bind_some]
  rw [down_eq hd.2.2.1 hd.2.2.2.1, down_eq hd.2.2.1 hd.2.2.2.1]
  rfl
theorem rwrap_no {K : Int} (h : ¬ (1 ≤ K ∧ K ≤ 16)) (k : Nat) (x y : Int) : gleberef02_Wrap.f k K x y = some (0, 0) := by
  unfold gleberef02_Wrap.f
  rw [rright_eq, decide_eq_false h]
  rfl
/-- Both move alike. -/
theorem move_same {K n : Int} (h : OkT K n) (k : Nat) (x y dx dy : Int) : ∃ v, torus_Torus_Move.f K x y dx dy = some v ∧ gleberef02_Move.f (k + 18) K x y dx dy = some v := by
  unfold torus_Torus_Move.f gleberef02_Move.f
  rw [has_eq h, rhas_eq h, Option.bind_some, Option.bind_some]
  by_cases c : 0 ≤ x ∧ x < n ∧ 0 ≤ y ∧ y < n
  · rw [decide_eq_true c, if_pos rfl, if_pos rfl, wrap_eq h, rwrap_eq h]
    simp only [Option.bind_some]
    unfold mn mx
    by_cases c1 : dx < -1073741824
    · rw [if_pos (by split <;> omega), if_pos c1]
      exact ⟨_, rfl, rfl⟩
    · by_cases c2 : dx > 1073741824
      · rw [if_neg c1, if_pos c2]
        by_cases c3 : (if dy < dx then dy else dx) < -1073741824
        · rw [if_pos c3]
          exact ⟨_, rfl, rfl⟩
        · rw [if_neg c3, if_pos (by split <;> omega)]
          exact ⟨_, rfl, rfl⟩
      · rw [if_neg c1, if_neg c2]
        by_cases c3 : dy < -1073741824
        · rw [if_pos (by split <;> omega), if_pos c3]
          exact ⟨_, rfl, rfl⟩
        · rw [if_neg (by split <;> omega), if_neg c3]
          by_cases c4 : dy > 1073741824
          · rw [if_pos (by split <;> omega), if_pos c4]
            exact ⟨_, rfl, rfl⟩
          · rw [if_neg (by split <;> omega), if_neg c4]
            exact ⟨_, rfl, rfl⟩
  · rw [decide_eq_false c]
    exact ⟨_, rfl, rfl⟩
theorem move_same_no {K : Int} (h : ¬ (1 ≤ K ∧ K ≤ 16)) (k : Nat) (x y dx dy : Int) : torus_Torus_Move.f K x y dx dy = some (0, 0, 1) ∧ gleberef02_Move.f k K x y dx dy = some (0, 0, 1) := by
  unfold torus_Torus_Move.f gleberef02_Move.f
  rw [has_no h, rhas_no h]
  exact ⟨rfl, rfl⟩
theorem number_same {K n : Int} (h : OkT K n) (k : Nat) (x y : Int) : ∃ v, torus_Torus_Number.f K x y = some v ∧ gleberef02_Number.f (k + 18) K x y = some v := by
  have hd := okT_bd h
  by_cases c : 0 ≤ x ∧ x < n ∧ 0 ≤ y ∧ y < n
  · have e1 : y * n ≤ 65536 * 65536 := Int.mul_le_mul (by omega) (by omega) (by omega) (by decide)
    have e2 : 0 ≤ y * n := Int.mul_nonneg (by omega) (by omega)
    refine ⟨_, number_eq h ⟨c.1, c.2.1⟩ c.2.2, ?_⟩
    unfold gleberef02_Number.f
    rw [rhas_eq h, decide_eq_true c, Option.bind_some, if_pos rfl, rside_eq h, Option.bind_some]
    generalize y * n = z at e1 e2
    rw [wrap64_small (x := z) (by omega) (by omega), wrap64_small (by omega) (by omega)]
  · unfold torus_Torus_Number.f gleberef02_Number.f
    rw [has_eq h, rhas_eq h, decide_eq_false c]
    exact ⟨_, rfl, rfl⟩
theorem number_same_no {K : Int} (h : ¬ (1 ≤ K ∧ K ≤ 16)) (k : Nat) (x y : Int) : torus_Torus_Number.f K x y = some (0, 1) ∧ gleberef02_Number.f k K x y = some (0, 1) := by
  unfold torus_Torus_Number.f gleberef02_Number.f
  rw [has_no h, rhas_no h]
  exact ⟨rfl, rfl⟩
theorem cell_same {K n : Int} (h : OkT K n) (k : Nat) (i : Int) (hi : i ≤ 9223372036854775807) : ∃ v, torus_Torus_Cell.f K i = some v ∧ gleberef02_Cell.f (k + 19) K i = some v := by
  have hd := okT_bd h
  have hs := sq_bd hd.2.2.1 hd.2.2.2.1
  have hj : ∀ b, gleberef02_Cell.j0 (k + 19) K i b = if b = true then some (0, 0, 1) else some (Int.tmod i n, wrap64 (Int.tdiv i n), 0) := by
    intro b
    rw [gleberef02_Cell.j0, rside_eq h]
    simp only [Option.bind_some]
    rw [if_neg (show ¬ n = 0 by omega), if_neg (show ¬ n = 0 by omega)]
  unfold gleberef02_Cell.f
  rw [rside_eq h (k + 1)]
  simp only [Option.bind_some]
  rw [hj, hj]
  by_cases c : 0 ≤ i ∧ i < n * n
  · refine ⟨_, cell_eq h c, ?_⟩
    have hq : 0 ≤ i / n ∧ i / n ≤ i := ⟨Int.ediv_nonneg c.1 (by omega), Int.ediv_le_self n c.1⟩
    rw [if_neg (by omega), wrap64_small (by omega) (by omega), decide_eq_false (by omega), if_neg (by simp), Int.tmod_eq_emod_of_nonneg c.1, Int.tdiv_eq_ediv_of_nonneg c.1, wrap64_small (by omega) (by omega)]
  · refine ⟨_, cell_no h c, ?_⟩
    by_cases c0 : i < 0
    · rw [if_pos c0, if_pos rfl]
    · rw [if_neg c0, wrap64_small (by omega) (by omega), decide_eq_true (by omega), if_pos rfl]
theorem wrap00 : wrap64 (0 * 0) = 0 := by decide +kernel
theorem cell_same_no {K : Int} (h : ¬ (1 ≤ K ∧ K ≤ 16)) (k : Nat) (i : Int) : torus_Torus_Cell.f K i = some (0, 0, 1) ∧ gleberef02_Cell.f (k + 1) K i = some (0, 0, 1) := by
  have hj : gleberef02_Cell.j0 (k + 1) K i true = some (0, 0, 1) := by
    rw [gleberef02_Cell.j0, if_pos rfl]
  unfold torus_Torus_Cell.f torus_Torus_Area.f gleberef02_Cell.f
  rw [side_no h, rside_no h]
  simp only [Option.bind_some]
  by_cases c0 : i < 0
  · rw [if_pos c0, if_pos c0, hj]
    exact ⟨rfl, rfl⟩
  · rw [if_neg c0, if_neg c0, wrap00, if_pos (by omega), decide_eq_true (show i ≥ 0 by omega), hj]
    exact ⟨rfl, rfl⟩
end Go.Proofs.Ytimfeiobdcmhnaa.PU
namespace Go.Proofs.Ytimfeiobdcmhnaa.PU
open Go.RowKit Go.Proofs.YtimfeiobdcmhnaaW.PrintWords Go.Proofs.YtimfeiobdcmhnaaW.PrintLast Go.Proofs.YtimfeiobdcmhnaaW.PrintMore
theorem num_f (x : Int) : glebelaw02_num.f x = some x := rfl
theorem cells_rest (K x y dx dy i : Int) (b : Bool) (hb : b = false) (k : Nat) {n a : Int} {hs : Bool} {wr : Int × Int} {mv : Int × Int × Int} {nu : Int × Int} {ce : Int × Int × Int}
    (e1 : torus_Torus_Side.f K = some n) (e2 : gleberef02_Side.f k K = some n) (e3 : torus_Torus_Area.f K = some a) (e4 : a = wrap64 (n * n)) (e5 : torus_Torus_Has.f K x y = some hs) (e6 : gleberef02_Has.f k K x y = some hs)
    (e7 : torus_Torus_Wrap.f K dx dy = some wr) (e8 : gleberef02_Wrap.f k K dx dy = some wr) (e9 : torus_Torus_Move.f K x y dx dy = some mv) (e10 : gleberef02_Move.f k K x y dx dy = some mv)
    (e11 : torus_Torus_Number.f K x y = some nu) (e12 : gleberef02_Number.f k K x y = some nu) (e13 : torus_Torus_Cell.f K i = some ce) (e14 : gleberef02_Cell.f k K i = some ce) (e15 : glebelaw02_knows.f k = some true) :
    glebelaw02_TorusCells.j0 (k + 1) K dx dy i b x y = some true := by
  subst hb e4
  rw [glebelaw02_TorusCells.j0, if_neg (by simp)]
  simp only [e1, e2, e3, e5, e6, e7, e8, e9, e10, e11, e12, e13, e14, e15, num_f, Option.bind_some, beq_self_eq_true, Bool.and_self, if_true]
theorem torusCells_pure : TorusCells_Pure := by
  intro K x y dx dy i
  intros
  refine ⟨101, ?_⟩
  have kn : glebelaw02_knows.f 100 = some true := by decide +kernel
  unfold glebelaw02_TorusCells.f
  by_cases c : 1 ≤ K ∧ K ≤ 16
  · have h := okT_of c
    generalize (2 : Int) ^ K.toNat = n at h
    have hd := okT_bd h
    have hs := sq_bd hd.2.2.1 hd.2.2.2.1
    have e0 : torus_New.f K = some (K, 0) := by
      unfold torus_New.f
      rw [ok_eq, decide_eq_true c]
      rfl
    obtain ⟨mv, m1, m2⟩ := move_same h 82 x y dx dy
    obtain ⟨nu, n1, n2⟩ := number_same h 82 x y
    obtain ⟨ce, c1, c2⟩ := cell_same h 81 i (by omega)
    rw [e0, rright_eq, decide_eq_true c]
    simp only [Option.bind_some, num_f]
    rw [if_neg (by decide), if_pos trivial, if_pos trivial]
    exact cells_rest K x y dx dy i (K != K) (bne_self_eq_false _) 100 (side_eq h) (rside_eq h 82) (area_eq h) (wrap64_small (by omega) (by omega)).symm (has_eq h x y) (rhas_eq h 82 x y) (wrap_eq h dx dy) (rwrap_eq h 82 dx dy) m1 m2 n1 n2 c1 c2 kn
  · have e0 : torus_New.f K = some (0, 1) := by
      unfold torus_New.f
      rw [ok_eq, decide_eq_false c]
      rfl
    have ea : torus_Torus_Area.f K = some 0 := by
      unfold torus_Torus_Area.f
      rw [side_no c, Option.bind_some, Option.bind_some, wrap00]
    obtain ⟨m1, m2⟩ := move_same_no c 100 x y dx dy
    obtain ⟨n1, n2⟩ := number_same_no c 100 x y
    obtain ⟨c1, c2⟩ := cell_same_no c 99 i
    rw [e0, rright_eq, decide_eq_false c]
    simp only [Option.bind_some, num_f]
    rw [if_neg (by decide), if_neg (by decide), if_pos trivial, if_neg (by decide), if_neg (by decide)]
    exact cells_rest K x y dx dy i false rfl 100 (side_no c) (rside_no c 100) ea wrap00.symm (has_no c x y) (rhas_no c 100 x y) (wrap_no c dx dy) (rwrap_no c 100 dx dy) m1 m2 n1 n2 c1 c2 kn
end Go.Proofs.Ytimfeiobdcmhnaa.PU
namespace Go.Proofs.Ytimfeiobdcmhnaa.Pure
theorem TorusCells : Go.Proofs.Ytimfeiobdcmhnaa.PU.TorusCells_Pure := Go.Proofs.Ytimfeiobdcmhnaa.PU.torusCells_pure
end Go.Proofs.Ytimfeiobdcmhnaa.Pure
