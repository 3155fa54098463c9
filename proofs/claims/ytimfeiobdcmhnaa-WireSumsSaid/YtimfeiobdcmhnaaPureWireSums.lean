/- WireSums: the sum by table is the sum bit by bit; one bit turned makes another sum. -/
import Derived.Test.YtimfeiobdcmhnaaWireCrc
import Derived.Test.YtimfeiobdcmhnaaPRx13
import Derived.Test.YtimfeiobdcmhnaaStWireSums
namespace Go.Proofs.Ytimfeiobdcmhnaa.PR
open Go.RowKit Go.Proofs.YtimfeiobdcmhnaaW.PrintWords Go.Proofs.YtimfeiobdcmhnaaW.PrintLast Go.Proofs.YtimfeiobdcmhnaaW.PrintMore
theorem byt_of {l : List Int} (h : ∀ z ∈ l, (Lit.int .u8 z).wf = true) : Byt l := by
  intro z hz
  have h1 := h z hz
  simp only [Lit.wf, Bool.and_eq_true, decide_eq_true_eq] at h1
  have h2 : IntKind.u8.min = 0 := rfl
  have h3 : IntKind.u8.max = 255 := rfl
  omega
theorem place (a1 : Int) (n : Nat) (h : 0 < n) (hn : n ≤ 20000) : ∃ q : Nat, Int.tmod (wrap64 (Int.tmod a1 (8 * (n : Int)) + 8 * (n : Int))) (8 * (n : Int)) = q ∧ q < 8 * n := by
  have h1 := Int.tmod_lt_of_pos a1 (show (0 : Int) < 8 * (n : Int) by omega)
  have h2 : -(8 * (n : Int)) < Int.tmod a1 (8 * (n : Int)) := by
    have := Int.tmod_lt_of_pos (-a1) (show (0 : Int) < 8 * (n : Int) by omega)
    rw [Int.neg_tmod] at this
    omega
  generalize Int.tmod a1 (8 * (n : Int)) = x at h1 h2
  rw [show wrap64 (x + 8 * (n : Int)) = x + 8 * (n : Int) by unfold wrap64; omega, Int.tmod_eq_emod_of_nonneg (by omega)]
  have h3 := Int.emod_nonneg (x + 8 * (n : Int)) (show 8 * (n : Int) ≠ 0 by omega)
  have h4 := Int.emod_lt_of_pos (x + 8 * (n : Int)) (show (0 : Int) < 8 * (n : Int) by omega)
  exact ⟨((x + 8 * (n : Int)) % (8 * (n : Int))).toNat, by omega, by omega⟩
theorem flip_ne {x : Int} (hx : 0 ≤ x ∧ x < 256) (j : Nat) (hj : j < 8) : (0 ≤ Go.bits .xor .u8 x (shl .u8 1 (j : Int)) ∧ Go.bits .xor .u8 x (shl .u8 1 (j : Int)) < 256) ∧ Go.bits .xor .u8 x (shl .u8 1 (j : Int)) ≠ x := by
  obtain ⟨a, rfl⟩ := Int.eq_ofNat_of_zero_le hx.1
  have hs : shl .u8 1 (j : Int) = ((2 ^ j : Nat) : Int) := by
    have h8 : j = 0 ∨ j = 1 ∨ j = 2 ∨ j = 3 ∨ j = 4 ∨ j = 5 ∨ j = 6 ∨ j = 7 := by omega
    rcases h8 with rfl | rfl | rfl | rfl | rfl | rfl | rfl | rfl <;> decide
  have hp : 2 ^ j < 256 := Nat.pow_lt_pow_right (show 1 < 2 by omega) hj
  rw [hs, xor_u8 (by omega) hp]
  have hb := Nat.xor_lt_two_pow (n := 8) (x := a) (y := 2 ^ j) (by omega) hp
  refine ⟨⟨by omega, by omega⟩, fun h => ?_⟩
  have h1 : a ^^^ 2 ^ j = a := by omega
  have h2 : 2 ^ j ^^^ a = 0 ^^^ a := by rw [Nat.xor_comm, h1, Nat.zero_xor]
  have h3 := xor_cancel h2
  have h4 := Nat.two_pow_pos j
  omega
theorem wireSums_pure : WireSums_Pure := by
  intro l a1 hlen hwf ha
  have hB : Byt l := byt_of hwf
  by_cases h : (l.length : Int) > 20000
  · refine ⟨0, ?_⟩
    unfold glebelaw01_WireSums.f
    rw [if_pos h]
    rfl
  · refine ⟨10 * l.length + 1, ?_⟩
    unfold glebelaw01_WireSums.f
    rw [if_neg h]
    have e1 : glebelaw01_Lent.f l = some l := by unfold glebelaw01_Lent.f; rw [if_pos (by omega)]
    have e2 := wsum_nat hB
    have e3 := rsum_nat hB (by omega) 0
    rw [Nat.zero_add] at e3
    have e4 : glebelaw01_Stays.f l l = some true := if_pos rfl
    rw [e1, Option.bind_some, e2, Option.bind_some, e3, Option.bind_some, if_pos rfl, e4, Option.bind_some, if_pos rfl]
    show glebelaw01_WireSums.j0 (10 * l.length + 1) l a1 l (sumN l) false = some true
    rw [glebelaw01_WireSums.j0, if_neg (by decide)]
    by_cases hz : l = []
    · subst hz
      rw [if_pos (show (([] : List Int).length : Int) = 0 from rfl)]
      rfl
    · have hp : 0 < l.length := List.length_pos_iff.mpr hz
      rw [if_neg (by omega), show wrap64 (8 * (l.length : Int)) = 8 * (l.length : Int) by unfold wrap64; omega, if_neg (by omega)]
      obtain ⟨q, hq, hq1⟩ := place a1 l.length hp (by omega)
      rw [hq]
      have w1 : wrap64 (Int.tdiv (q : Int) 8) = ((q / 8 : Nat) : Int) := by
        rw [Int.tdiv_eq_ediv_of_nonneg (by omega)]
        unfold wrap64
        omega
      have w2 : IntKind.u64.wrap (Int.tmod (q : Int) 8) = ((q % 8 : Nat) : Int) := by
        rw [Int.tmod_eq_emod_of_nonneg (by omega)]
        show ((q : Int) % 8) % 18446744073709551616 = _
        omega
      have hi : q / 8 < l.length := by omega
      rw [w1, w2, if_pos (by omega), if_pos (by omega), if_pos (by omega), Int.toNat_natCast, rd_nat l _ hi]
      obtain ⟨f1, f2⟩ := flip_ne (hB _ (List.getElem_mem hi)) (q % 8) (by omega)
      have hset : Byt (l.set (q / 8) (Go.bits .xor .u8 l[q / 8] (shl .u8 1 ((q % 8 : Nat) : Int)))) := by
        intro y hy
        rcases List.mem_or_eq_of_mem_set hy with hy | rfl
        · exact hB y hy
        · exact f1
      have hne := sumN_set hB hi f1 f2
      rw [wsum_nat hset, Option.bind_some]
      have : ((sumN (l.set (q / 8) (Go.bits .xor .u8 l[q / 8] (shl .u8 1 ((q % 8 : Nat) : Int)))) : Int) != (sumN l : Int)) = true := bne_iff_ne.mpr (by omega)
      rw [this]
end Go.Proofs.Ytimfeiobdcmhnaa.PR
namespace Go.Proofs.Ytimfeiobdcmhnaa.Pure
theorem WireSums : Go.Proofs.Ytimfeiobdcmhnaa.PR.WireSums_Pure := Go.Proofs.Ytimfeiobdcmhnaa.PR.wireSums_pure
end Go.Proofs.Ytimfeiobdcmhnaa.Pure
