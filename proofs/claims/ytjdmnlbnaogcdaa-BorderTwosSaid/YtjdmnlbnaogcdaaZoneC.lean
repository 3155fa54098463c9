/- Paths: when one may be, and where its zone lies, by the code and by the reference. -/
import Derived.Test.YtjdmnlbnaogcdaaRectC
import Derived.Test.YtjdmnlbnaogcdaaPCx1
namespace Go.Proofs.Ytjdmnlbnaogcdaa.PC
open Go.RowKit Go.Proofs.YtjdmnlbnaogcdaaW.PrintWords Go.Proofs.YtjdmnlbnaogcdaaW.PrintLast Go.Proofs.YtjdmnlbnaogcdaaW.PrintMore
set_option linter.unusedVariables false
def PathOk (K d b : Int) : Prop := (1 ≤ K ∧ K ≤ 16) ∧ (0 ≤ d ∧ d ≤ 2 * K) ∧ 0 ≤ b ∧ b < 2 ^ d.toNat
instance (K d b : Int) : Decidable (PathOk K d b) := by unfold PathOk; exact inferInstance
theorem pow_bd (i : Nat) (h : i ≤ 32) : (1 : Int) ≤ 2 ^ i ∧ (2 : Int) ^ i ≤ 4294967296 := by
  have h1 : (2 : Int) ^ i = ((2 ^ i : Nat) : Int) := by simp
  have h2 : 2 ^ i ≤ 2 ^ 32 := Nat.pow_le_pow_right (by decide) h
  have h3 : 0 < 2 ^ i := Nat.two_pow_pos i
  omega
theorem div_zero_iff {b : Int} {m : Nat} (hb : 0 ≤ b) : b / 2 ^ m = 0 ↔ b < 2 ^ m := by
  have hp : (0 : Int) < 2 ^ m := Int.pow_pos (by decide)
  constructor
  · intro h
    have := Int.lt_ediv_add_one_mul_self b hp
    rw [h] at this
    omega
  · intro h
    exact Int.ediv_eq_zero_of_lt hb h
theorem pright_eq (K d b : Int) : path_Right.f K d b = some (decide (PathOk K d b)) := by
  unfold path_Right.f
  by_cases h1 : K < 1
  · rw [if_pos h1]
    congr 1
    exact (decide_eq_false (fun h => by have := h.1; omega)).symm
  · rw [if_neg h1]
    by_cases h2 : K > 16
    · rw [if_pos h2]
      congr 1
      exact (decide_eq_false (fun h => by have := h.1; omega)).symm
    · rw [if_neg h2]
      by_cases h3 : d < 0
      · rw [if_pos h3]
        congr 1
        exact (decide_eq_false (fun h => by have := h.2.1; omega)).symm
      · rw [if_neg h3, wrap64_small (by omega) (by omega)]
        by_cases h4 : d > 2 * K
        · rw [if_pos h4]
          congr 1
          exact (decide_eq_false (fun h => by have := h.2.1; omega)).symm
        · rw [if_neg h4]
          by_cases h5 : b ≥ 0
          · rw [if_pos h5, if_pos (by omega)]
            congr 1
            unfold shr
            rw [show min d.toNat IntKind.i64.bits = d.toNat from Nat.min_eq_left (by show d.toNat ≤ 64; omega)]
            by_cases h6 : b < 2 ^ d.toNat
            · rw [(div_zero_iff h5).mpr h6]
              exact (decide_eq_true ⟨by omega, by omega, by omega, h6⟩).symm
            · rw [beq_false_of_ne (fun h => h6 ((div_zero_iff h5).mp h))]
              exact (decide_eq_false (fun h => h6 h.2.2.2)).symm
          · rw [if_neg h5]
            congr 1
            exact (decide_eq_false (fun h => h5 h.2.2.1)).symm
theorem u64_small {x : Int} (h : 0 ≤ x ∧ x ≤ 1000) : IntKind.u64.wrap x = x := by
  simp only [IntKind.wrap, IntKind.bits, IntKind.signed, Bool.false_and]
  rw [if_neg (by decide)]
  omega
theorem shl_one {d : Int} (h : 0 ≤ d ∧ d ≤ 32) : shl .i64 1 (IntKind.u64.wrap d) = 2 ^ d.toNat := by
  rw [u64_small (by omega)]
  have hp := pow_bd d.toNat (by omega)
  unfold shl
  rw [show min d.toNat IntKind.i64.bits = d.toNat from Nat.min_eq_left (by show d.toNat ≤ 64; omega), Int.one_mul, IntKind.wrap_i64]
  omega
/-- A zone's rectangle. -/
def cnR (c : Cn) : R4 := ⟨c.x, c.y, c.w, c.h⟩
def zone (n d b : Int) : R4 := cnR (cornerOf n (halves d b d.toNat))
theorem corner_eq {K n d b : Int} (hk : OkT K n) (h : PathOk K d b) : path_Corner.f K d b = some ((zone n d b).f0, (zone n d b).f1, (zone n d b).f2, (zone n d b).f3) := by
  have hb := okT_bd hk
  unfold path_Corner.f
  obtain ⟨h1, h2, h3, h4⟩ := h
  have hp := pow_bd d.toNat (by omega)
  rw [pright_eq, decide_eq_true ⟨h1, h2, h3, h4⟩, Option.bind_some, if_pos rfl, side_eq hk, Option.bind_some, if_pos (by omega)]
  rfl
theorem of_eq {K n d b : Int} (hk : OkT K n) (h : PathOk K d b) : window_Of.f K d b = some ((zone n d b).f0, (zone n d b).f1, (zone n d b).f2, (zone n d b).f3, 0) := by
  unfold window_Of.f
  rw [pright_eq, decide_eq_true h, Option.bind_some, if_pos rfl, corner_eq hk h]
  rfl
theorem of_no {K d b : Int} (h : ¬ PathOk K d b) : window_Of.f K d b = some (0, 0, 0, 0, 1) := by
  unfold window_Of.f
  rw [pright_eq, decide_eq_false h]
  rfl
/-- A zone has cells, all of the torus. -/
theorem corner_size {K n : Int} (hk : OkT K n) (d b : Int) (i : Nat) (hi : (i : Int) ≤ 2 * K) :
    (cornerOf n (halves d b i)).w = 2 ^ (K.toNat - (i + 1) / 2) ∧ (cornerOf n (halves d b i)).h = 2 ^ (K.toNat - i / 2) := by
  have hb := okT_bd hk
  induction i with
  | zero =>
    show n = _ ∧ n = _
    rw [hk.2.2]
    simp
  | succ i ih =>
    have ih := ih (by omega)
    rw [halves_succ, cornerOf_snoc]
    generalize cornerOf n (halves d b i) = c at *
    obtain ⟨i1, i2⟩ := ih
    have half : ∀ m : Nat, (2 : Int) ^ (m + 1) / 2 = 2 ^ m := fun m => by rw [Int.pow_succ]; omega
    unfold Cn.step halfAt
    dsimp only
    by_cases hi : (i : Int) % 2 = 0
    · rw [if_neg (by simp; omega)]
      dsimp only
      rw [i1, i2]
      refine ⟨?_, by congr 1; omega⟩
      rw [show K.toNat - (i + 1) / 2 = (K.toNat - (i + 1 + 1) / 2) + 1 by omega, half]
    · rw [if_pos (by simp; omega)]
      dsimp only
      rw [i1, i2]
      refine ⟨by congr 1; omega, ?_⟩
      rw [show K.toNat - i / 2 = (K.toNat - (i + 1) / 2) + 1 by omega, half]
theorem zone_ok {K n d b : Int} (hk : OkT K n) (h : PathOk K d b) : Pos (zone n d b) ∧ Rt n (zone n d b) := by
  have hb := okT_bd hk
  obtain ⟨h1, h2, h3, h4⟩ := h
  have hz := corner_size hk d b d.toNat (by omega)
  have ok := cnOk_of (s := n) (by omega) (halves d b d.toNat)
  unfold zone cnR Pos Rt
  generalize cornerOf n (halves d b d.toNat) = c at *
  obtain ⟨k1, k2, k3, k4, k5, k6⟩ := ok
  have p1 := two_pow_bd (K.toNat - (d.toNat + 1) / 2) (by omega)
  have p2 := two_pow_bd (K.toNat - d.toNat / 2) (by omega)
  dsimp only
  omega
end Go.Proofs.Ytjdmnlbnaogcdaa.PC
