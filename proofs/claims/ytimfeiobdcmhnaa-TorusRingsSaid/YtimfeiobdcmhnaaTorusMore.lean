/- What Ring, Area, Cell and Number answer, as numbers (plain facts on the printed functions). -/
import Derived.Test.YtimfeiobdcmhnaaTorusOn
import Derived.Test.YtimfeiobdcmhnaaPTx7
namespace Go.Proofs.Ytimfeiobdcmhnaa.PT
open Go.RowKit Go.Proofs.YtimfeiobdcmhnaaW.PrintWords Go.Proofs.YtimfeiobdcmhnaaW.PrintLast Go.Proofs.YtimfeiobdcmhnaaW.PrintMore
theorem ring_eq {K n x y d : Int} (h : OkT K n) (hx : 0 ≤ x ∧ x < n) (hy : 0 ≤ y ∧ y < n) : torus_Torus_Ring.f K x y d = some (if 0 ≤ d ∧ d ≤ n then ringSum (n / 2) d (n / 2 + 1).toNat else 0) := by
  unfold torus_Torus_Ring.f
  rw [side_eq h, has_yes h hx hy]
  simp only [Option.bind_some, true_and]
  split <;> rfl
theorem sq_bd {n : Int} (h1 : 2 ≤ n) (h2 : n ≤ 65536) : 4 ≤ n * n ∧ n * n ≤ 4294967296 := by
  have a1 : 2 * 2 ≤ n * n := Int.mul_le_mul h1 h1 (by decide) (by omega)
  have a2 : n * n ≤ 65536 * 65536 := Int.mul_le_mul h2 h2 (by omega) (by decide)
  omega
theorem area_eq {K n : Int} (h : OkT K n) : torus_Torus_Area.f K = some (n * n) := by
  have hd := okT_bd h
  have hs := sq_bd hd.2.2.1 hd.2.2.2.1
  unfold torus_Torus_Area.f
  rw [side_eq h]
  simp only [Option.bind_some]
  rw [wrap64_small (by omega) (by omega)]
theorem okT_shr {K n : Int} (h : OkT K n) (x : Int) : shr .i64 x K = x / n := by
  have hd := okT_bd h
  obtain ⟨_, _, rfl⟩ := h
  unfold shr
  rw [Nat.min_eq_left (by simp [IntKind.bits]; omega)]
theorem okT_shl {K n : Int} (h : OkT K n) {x : Int} (h1 : -65536 ≤ x) (h2 : x ≤ 65536) : shl .i64 x K = x * n := by
  have hd := okT_bd h
  have e1 : x * n ≤ 65536 * n := Int.mul_le_mul_of_nonneg_right h2 (by omega)
  have e2 : -65536 * n ≤ x * n := Int.mul_le_mul_of_nonneg_right h1 (by omega)
  obtain ⟨_, _, rfl⟩ := h
  unfold shl
  rw [Nat.min_eq_left (by simp [IntKind.bits]; omega), IntKind.wrap_i64]
  omega
theorem cell_eq {K n i : Int} (h : OkT K n) (hi : 0 ≤ i ∧ i < n * n) : torus_Torus_Cell.f K i = some (i % n, i / n, 0) := by
  have hd := okT_bd h
  unfold torus_Torus_Cell.f
  rw [if_neg (by omega), area_eq h, mask_eq h]
  simp only [Option.bind_some]
  rw [if_neg (by omega), if_pos (by omega), okT_mask h, okT_shr h]
theorem cell_no {K n i : Int} (h : OkT K n) (hi : ¬ (0 ≤ i ∧ i < n * n)) : torus_Torus_Cell.f K i = some (0, 0, 1) := by
  unfold torus_Torus_Cell.f
  by_cases h0 : i < 0
  · rw [if_pos h0]
  · rw [if_neg h0, area_eq h]
    simp only [Option.bind_some]
    rw [if_pos (by omega)]
theorem or_join {K n x y : Int} (h : OkT K n) (hx : 0 ≤ x ∧ x < n) (hy : 0 ≤ y ∧ y < n) : Go.bits .or .i64 (y * n) x = y * n + x := by
  have hd := okT_bd h
  have e1 : y * n ≤ 65536 * 65536 := Int.mul_le_mul (by omega) (by omega) (by omega) (by decide)
  have e2 : 0 ≤ y * n := Int.mul_nonneg (by omega) (by omega)
  obtain ⟨_, _, rfl⟩ := h
  refine bits_join .i64 62 (by decide) (fun m h0 h1 => ?_) K.toNat (y * 2 ^ K.toNat) x e2 (Int.mul_emod_left _ _) ?_ hx.1 hx.2 ?_
  · rw [IntKind.wrap_i64]
    have : (2 : Int) ^ 62 = 4611686018427387904 := by decide
    omega
  · have : (2 : Int) ^ 62 = 4611686018427387904 := by decide
    omega
  · have : (2 : Int) ^ 62 = 4611686018427387904 := by decide
    omega
theorem number_eq {K n x y : Int} (h : OkT K n) (hx : 0 ≤ x ∧ x < n) (hy : 0 ≤ y ∧ y < n) : torus_Torus_Number.f K x y = some (y * n + x, 0) := by
  have hd := okT_bd h
  unfold torus_Torus_Number.f
  rw [has_yes h hx hy]
  simp only [Option.bind_some, if_true]
  rw [if_pos (by omega), okT_shl h (by omega) (by omega), or_join h hx hy]
end Go.Proofs.Ytimfeiobdcmhnaa.PT
