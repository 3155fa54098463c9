/- A path's children, and where their zones lie. -/
import Derived.Test.YtjdmnlbnaogcdaaZoneC
import Derived.Test.YtjdmnlbnaogcdaaPCx1
import Derived.Test.YtjdmnlbnaogcdaaPCx6
namespace Go.Proofs.Ytjdmnlbnaogcdaa.PC
open Go.RowKit Go.Proofs.YtjdmnlbnaogcdaaW.PrintWords Go.Proofs.YtjdmnlbnaogcdaaW.PrintLast Go.Proofs.YtjdmnlbnaogcdaaW.PrintMore
set_option linter.unusedVariables false
/-- Children. -/
theorem child_bits (d b c : Int) (hd : 0 ≤ d) (hc : 0 ≤ c ∧ c ≤ 1) (i : Nat) (hi : i < d.toNat) : halfBit (d + 1) (2 * b + c) i = halfBit d b i := by
  rw [halfBit_eq, halfBit_eq, show (d + 1).toNat - 1 - i = (d.toNat - 1 - i) + 1 by omega]
  rw [Int.pow_succ, Int.mul_comm (2 ^ _) 2, ← Int.ediv_ediv_of_nonneg (by decide)]
  rw [show (2 * b + c) / 2 = b by omega]
theorem child_halves (d b c : Int) (hd : 0 ≤ d) (hc : 0 ≤ c ∧ c ≤ 1) (k : Nat) (hk : k ≤ d.toNat) : halves (d + 1) (2 * b + c) k = halves d b k := by
  unfold halves
  apply List.map_congr_left
  intro i hi
  have hi' := List.mem_range.mp hi
  unfold halfAt
  congr 2
  exact child_bits d b c hd hc i (by omega)
theorem child_zone (n : Int) {d b c : Int} (hd : 0 ≤ d) (hc : 0 ≤ c ∧ c ≤ 1) :
    zone n (d + 1) (2 * b + c) = cnR ((cornerOf n (halves d b d.toNat)).step ((d.toNat : Int) % 2 == 1, c)) := by
  unfold zone
  rw [show (d + 1).toNat = d.toNat + 1 by omega, halves_succ, cornerOf_snoc, child_halves d b c hd hc _ (Nat.le_refl _)]
  have : (halfAt (d + 1) (2 * b + c) d.toNat).1 = ((d.toNat : Int) % 2 == 1, c) := by
    unfold halfAt
    dsimp only
    rw [halfBit_eq, show (d + 1).toNat - 1 - d.toNat = 0 by omega]
    congr 1
    simp
    omega
  rw [this]
/-- A parent's zone and its children's. -/
theorem zone_halves {K n d b : Int} (hk : OkT K n) (hp : PathOk K d b) (hd : d < 2 * K) :
    (∃ m, 0 ≤ m ∧ (zone n d b).f2 = 2 * m ∧ zone n (d + 1) (2 * b + 0) = ⟨(zone n d b).f0, (zone n d b).f1, m, (zone n d b).f3⟩ ∧ zone n (d + 1) (2 * b + 1) = ⟨(zone n d b).f0 + m, (zone n d b).f1, m, (zone n d b).f3⟩) ∨
    (∃ m, 0 ≤ m ∧ (zone n d b).f3 = 2 * m ∧ zone n (d + 1) (2 * b + 0) = ⟨(zone n d b).f0, (zone n d b).f1, (zone n d b).f2, m⟩ ∧ zone n (d + 1) (2 * b + 1) = ⟨(zone n d b).f0, (zone n d b).f1 + m, (zone n d b).f2, m⟩) := by
  have hb := okT_bd hk
  obtain ⟨h1, h2, h3, h4⟩ := hp
  rw [child_zone n h2.1 (by decide), child_zone n h2.1 (by decide)]
  obtain ⟨z1, z2⟩ := corner_size hk d b d.toNat (by omega)
  unfold zone cnR
  generalize cornerOf n (halves d b d.toNat) = c at *
  unfold Cn.step
  dsimp only
  have two : ∀ e : Nat, (2 : Int) ^ (e + 1) = 2 * 2 ^ e := fun e => by rw [Int.pow_succ]; omega
  have pz : ∀ e : Nat, (0 : Int) ≤ 2 ^ e := fun e => Int.le_of_lt (Int.pow_pos (by decide))
  by_cases hq : (d.toNat : Int) % 2 = 1
  · right
    have hh : c.h = 2 * 2 ^ (K.toNat - d.toNat / 2 - 1) := by rw [z2, ← two]; congr 1; omega
    refine ⟨2 ^ (K.toNat - d.toNat / 2 - 1), pz _, hh, ?_, ?_⟩
    · rw [if_pos (by simpa using hq)]
      dsimp only
      rw [show c.h / 2 = 2 ^ (K.toNat - d.toNat / 2 - 1) by omega, Int.zero_mul, Int.add_zero]
    · rw [if_pos (by simpa using hq)]
      dsimp only
      rw [show c.h / 2 = 2 ^ (K.toNat - d.toNat / 2 - 1) by omega, Int.one_mul]
  · left
    have hh : c.w = 2 * 2 ^ (K.toNat - (d.toNat + 1) / 2 - 1) := by rw [z1, ← two]; congr 1; omega
    refine ⟨2 ^ (K.toNat - (d.toNat + 1) / 2 - 1), pz _, hh, ?_, ?_⟩
    · rw [if_neg (by simpa using hq)]
      dsimp only
      rw [show c.w / 2 = 2 ^ (K.toNat - (d.toNat + 1) / 2 - 1) by omega, Int.zero_mul, Int.add_zero]
    · rw [if_neg (by simpa using hq)]
      dsimp only
      rw [show c.w / 2 = 2 ^ (K.toNat - (d.toNat + 1) / 2 - 1) by omega, Int.one_mul]
theorem child_ok {K d b c : Int} (hp : PathOk K d b) (hd : d < 2 * K) (hc : 0 ≤ c ∧ c ≤ 1) : PathOk K (d + 1) (2 * b + c) := by
  obtain ⟨h1, h2, h3, h4⟩ := hp
  refine ⟨h1, by omega, by omega, ?_⟩
  rw [show (d + 1).toNat = d.toNat + 1 by omega, Int.pow_succ]
  omega
theorem or_bit {b c : Int} (hb : 0 ≤ b ∧ b < 4294967296) (hc : 0 ≤ c ∧ c ≤ 1) : Go.bits .or .i64 (wrap64 (b * 2)) c = 2 * b + c := by
  rw [wrap64_small (by omega) (by omega)]
  have key : (BitVec.ofInt 64 (b * 2) ||| BitVec.ofInt 64 c).toNat = (b * 2 + c).toNat := by
    rw [BitVec.toNat_or, BitVec.toNat_ofInt, BitVec.toNat_ofInt]
    have e1 : ((b * 2) % ((2 ^ 64 : Nat) : Int)).toNat = 2 ^ 1 * b.toNat := by omega
    have e2 : (c % ((2 ^ 64 : Nat) : Int)).toNat = c.toNat := by omega
    rw [e1, e2, ← Nat.two_pow_add_eq_or_of_lt (by omega)]
    omega
  show IntKind.i64.wrap ((BitVec.ofInt 64 (b * 2) ||| BitVec.ofInt 64 c).toNat : Nat) = 2 * b + c
  rw [key, IntKind.wrap_i64]
  omega
theorem child_eq {K d b c : Int} (hp : PathOk K d b) (hd : d < 2 * K) (hc : c = 0 ∨ c = 1) (k : Nat) : path_Child.f (k + 1) d b c = some (d + 1, 2 * b + c, 0) := by
  obtain ⟨h1, h2, h3, h4⟩ := hp
  have hpow := pow_bd d.toNat (by omega)
  unfold path_Child.f path_fine.f
  rw [pright_eq, decide_eq_true ⟨by omega, by omega, h3, h4⟩]
  simp only [Option.bind_some, if_true]
  have hj : path_Child.j0 (k + 1) c false d b = some (d + 1, 2 * b + c, 0) := by
    simp only [path_Child.j0]
    rw [if_neg (by decide), if_neg (by omega), or_bit (by omega) (by omega), wrap64_small (by omega) (by omega)]
  rcases hc with rfl | rfl
  · rw [if_pos rfl]
    exact hj
  · rw [if_neg (by decide)]
    exact hj
theorem pos_mod1 (a m : Int) (hm : 1 ≤ m) (hs : m ≤ 1048576) : 0 ≤ Int.tmod (wrap64 (wrap64 (Int.tmod a (wrap64 (m + 1)) + m) + 1)) (wrap64 (m + 1)) ∧ Int.tmod (wrap64 (wrap64 (Int.tmod a (wrap64 (m + 1)) + m) + 1)) (wrap64 (m + 1)) ≤ m := by
  rw [wrap64_small (x := m + 1) (by omega) (by omega)]
  have h1 := Int.tmod_lt_of_pos a (b := m + 1) (by omega)
  have h2 := Int.lt_tmod_of_pos a (b := m + 1) (by omega)
  rw [wrap64_small (x := Int.tmod a (m + 1) + m) (by omega) (by omega), wrap64_small (by omega) (by omega)]
  have h3 := Int.tmod_lt_of_pos (Int.tmod a (m + 1) + m + 1) (b := m + 1) (by omega)
  exact ⟨Int.tmod_nonneg _ (by omega), by omega⟩
theorem some3_eq {K : Int} (hK : 1 ≤ K ∧ K ≤ 16) (d b : Int) : ∃ D B, glebelaw03_Some.f K d b = some (D, B) ∧ PathOk K D B := by
  unfold glebelaw03_Some.f
  rw [wrap64_small (x := 2 * K) (by omega) (by omega)]
  have hp := pos_mod1 d (2 * K) (by omega) (by omega)
  rw [if_neg (by rw [wrap64_small (by omega) (by omega)]; omega)]
  generalize Int.tmod (wrap64 (wrap64 (Int.tmod d (wrap64 (2 * K + 1)) + 2 * K) + 1)) (wrap64 (2 * K + 1)) = D at *
  have hpow := pow_bd D.toNat (by omega)
  rw [if_pos (by rw [u64_small (by omega)]; omega), shl_one (by omega), if_neg (by omega)]
  have t1 := Int.tmod_lt_of_pos b (b := 2 ^ D.toNat) (by omega)
  have t2 := Int.lt_tmod_of_pos b (b := 2 ^ D.toNat) (by omega)
  rw [wrap64_small (x := Int.tmod b (2 ^ D.toNat) + 2 ^ D.toNat) (by omega) (by omega)]
  exact ⟨_, _, rfl, hK, hp, Int.tmod_nonneg _ (by omega), Int.tmod_lt_of_pos _ (by omega)⟩
end Go.Proofs.Ytjdmnlbnaogcdaa.PC
