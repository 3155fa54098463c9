/- What wire.Unframe answers, for all bytes. -/
import Derived.Test.YtimfeiobdcmhnaaWireFrame
import Derived.Test.YtimfeiobdcmhnaaWireCrc
import Derived.Test.YtimfeiobdcmhnaaPRx6
import Derived.Test.YtimfeiobdcmhnaaPRx7
import Derived.Test.YtimfeiobdcmhnaaPRx8
namespace Go.Proofs.Ytimfeiobdcmhnaa.PR
open Go.RowKit Go.Proofs.YtimfeiobdcmhnaaW.PrintWords Go.Proofs.YtimfeiobdcmhnaaW.PrintLast Go.Proofs.YtimfeiobdcmhnaaW.PrintMore
set_option linter.unusedVariables false
theorem eq_run (x y : List Int) (hl : x.length = y.length) (hs : x.length ≤ 1000000) (k : Nat) : ∀ n i : Nat, i + n = x.length → x.take i = y.take i → slices_Equal_byte_byte.l0 (k + n + 1) x y (x.length : Int) (i : Int) = some (decide (x = y)) := by
  intro n
  induction n with
  | zero =>
    intro i hi ht
    obtain rfl : i = x.length := by omega
    rw [slices_Equal_byte_byte.l0, if_neg (by omega)]
    rw [List.take_length, hl, List.take_length] at ht
    rw [decide_eq_true ht]
  | succ n ih =>
    intro i hi ht
    have h1 : i < x.length := by omega
    have h2 : i < y.length := by omega
    rw [show k + (n + 1) + 1 = (k + n + 1) + 1 from rfl, slices_Equal_byte_byte.l0, if_pos (by omega), if_pos (by omega), if_pos (by omega), if_pos (by omega), rd_nat x i h1, rd_nat y i h2]
    by_cases q : x[i] = y[i]
    · rw [if_pos q, show wrap64 ((i : Int) + 1) = ((i + 1 : Nat) : Int) by unfold wrap64; omega]
      refine ih (i + 1) (by omega) ?_
      rw [List.take_succ_eq_append_getElem h1, List.take_succ_eq_append_getElem h2, ht, q]
    · rw [if_neg q, decide_eq_false]
      rintro rfl
      exact q rfl
theorem equal_eq {x y : List Int} (hs : x.length ≤ 1000000) (k : Nat) : slices_Equal_byte_byte.f (k + x.length + 1) x y = some (decide (x = y)) := by
  unfold slices_Equal_byte_byte.f
  by_cases h : x.length = y.length
  · rw [if_pos (by omega)]
    exact eq_run x y h hs k x.length 0 (by omega) rfl
  · rw [if_neg (by omega), decide_eq_false]
    rintro rfl
    exact h rfl
theorem or_i64 {a b : Nat} (ha : a < 4294967296) (hb : b < 4294967296) : Go.bits .or .i64 (a : Int) (b : Int) = ((a ||| b : Nat) : Int) := by
  unfold Go.bits
  dsimp only
  have ha' : (BitVec.ofInt (IntKind.bits .i64) (a : Int)).toNat = a := by
    show ((a : Int) % (2 ^ 64 : Nat)).toNat = a
    omega
  have hb' : (BitVec.ofInt (IntKind.bits .i64) (b : Int)).toNat = b := by
    show ((b : Int) % (2 ^ 64 : Nat)).toNat = b
    omega
  rw [BitVec.toNat_or, ha', hb']
  have h := Nat.or_lt_two_pow (n := 32) (x := a) (y := b) (by omega) (by omega)
  generalize a ||| b = z at h
  rw [IntKind.wrap_i64]
  omega
/-- Three bytes are a number. -/
theorem three {x y z : Int} (hx : 0 ≤ x ∧ x < 256) (hy : 0 ≤ y ∧ y < 256) (hz : 0 ≤ z ∧ z < 256) : Go.bits .or .i64 (Go.bits .or .i64 (wrap64 x) (wrap64 ((wrap64 y) * 256))) (wrap64 ((wrap64 z) * 65536)) = x + y * 256 + z * 65536 := by
  obtain ⟨a, rfl⟩ := Int.eq_ofNat_of_zero_le hx.1
  obtain ⟨b, rfl⟩ := Int.eq_ofNat_of_zero_le hy.1
  obtain ⟨c, rfl⟩ := Int.eq_ofNat_of_zero_le hz.1
  rw [show wrap64 (a : Int) = (a : Int) by unfold wrap64; omega, show wrap64 (b : Int) = (b : Int) by unfold wrap64; omega, show wrap64 (c : Int) = (c : Int) by unfold wrap64; omega,
    show wrap64 ((b : Int) * 256) = ((b * 256 : Nat) : Int) by unfold wrap64; omega, show wrap64 ((c : Int) * 65536) = ((c * 65536 : Nat) : Int) by unfold wrap64; omega, or_i64 (by omega) (by omega)]
  have h1 := Nat.two_pow_add_eq_or_of_lt (i := 8) (b := a) (by omega) b
  have e1 : a ||| b * 256 = a + b * 256 := by
    rw [Nat.or_comm, show b * 256 = 2 ^ 8 * b by omega, ← h1]
    omega
  have h2 := Nat.two_pow_add_eq_or_of_lt (i := 16) (b := a + b * 256) (by omega) c
  have e2 : (a + b * 256) ||| c * 65536 = a + b * 256 + c * 65536 := by
    rw [Nat.or_comm, show c * 65536 = 2 ^ 16 * c by omega, ← h2]
    omega
  rw [e1, or_i64 (by omega) (by omega), e2]
  omega
/-- What Unframe answers. -/
def unf (l : List Int) : Int × List Int × Int :=
  if l.length < 5 then (0, [], 20)
  else if rd l 0 ≠ 3 ∨ rd l 2 + rd l 3 * 256 + rd l 4 * 65536 > 131072 then (0, [], 21)
  else if (l.length : Int) < rd l 2 + rd l 3 * 256 + rd l 4 * 65536 + 9 then (0, [], 20)
  else if (l.length : Int) > rd l 2 + rd l 3 * 256 + rd l 4 * 65536 + 9 then (0, [], 21)
  else if sumB (sumN (l.take (rd l 2 + rd l 3 * 256 + rd l 4 * 65536 + 5).toNat)) = l.drop (rd l 2 + rd l 3 * 256 + rd l 4 * 65536 + 5).toNat then (rd l 1, (l.take (rd l 2 + rd l 3 * 256 + rd l 4 * 65536 + 5).toNat).drop 5, 0)
  else (0, [], 22)
theorem rd_byt {l : List Int} (hl : Byt l) (i : Nat) (hi : i < l.length) : 0 ≤ rd l i ∧ rd l i < 256 := by
  rw [rd_nat l i hi]
  exact hl _ (List.getElem_mem hi)
theorem wunf {l : List Int} (hl : Byt l) (hn : l.length ≤ 1000000) (k : Nat) : wire_Unframe.f (k + 7) l = some (unf l) := by
  unfold wire_Unframe.f unf
  by_cases h5 : l.length < 5
  · rw [if_pos (by omega), if_pos h5]
  · have r0 := rd_byt hl 0 (by omega)
    have r1 : 0 ≤ rd l 1 ∧ rd l 1 < 256 := rd_byt hl 1 (by omega)
    have r2 : 0 ≤ rd l 2 ∧ rd l 2 < 256 := rd_byt hl 2 (by omega)
    have r3 : 0 ≤ rd l 3 ∧ rd l 3 < 256 := rd_byt hl 3 (by omega)
    have r4 : 0 ≤ rd l 4 ∧ rd l 4 < 256 := rd_byt hl 4 (by omega)
    have e := three (x := rd l 2) (y := rd l 3) (z := rd l 4) r2 r3 r4
    rw [if_neg (by omega), if_neg h5, if_pos (by omega), if_pos (by omega), if_pos (by omega), if_pos (by omega), e]
    have hn0 : 0 ≤ rd l 2 + rd l 3 * 256 + rd l 4 * 65536 := by omega
    have hn1 : rd l 2 + rd l 3 * 256 + rd l 4 * 65536 < 16777216 := by omega
    generalize hN : rd l 2 + rd l 3 * 256 + rd l 4 * 65536 = N at hn0 hn1 ⊢
    by_cases h3 : rd l 0 = 3
    · rw [if_pos h3]
      by_cases hb : N > 131072
      · rw [decide_eq_true hb, wire_Unframe.j0, if_pos rfl, if_pos (Or.inr hb)]
      · rw [decide_eq_false hb, wire_Unframe.j0, if_neg (by decide), if_neg (show ¬ (rd l 0 ≠ 3 ∨ N > 131072) from fun q => q.elim (fun q => q h3) hb)]
        rw [show wrap64 ((wrap64 ((wrap64 ((l.length : Int) - 5)) - 4)) - N) = (l.length : Int) - 9 - N by unfold wrap64; omega, show wrap64 (5 + N) = 5 + N by unfold wrap64; omega]
        by_cases c1 : (l.length : Int) < N + 9
        · rw [if_pos (show (l.length : Int) - 9 - N < 0 by omega), if_pos c1]
        · rw [if_neg (show ¬ ((l.length : Int) - 9 - N < 0) by omega), if_neg c1]
          by_cases c2 : (l.length : Int) > N + 9
          · rw [if_pos (show (l.length : Int) - 9 - N > 0 by omega), if_pos c2]
          · rw [if_neg (show ¬ ((l.length : Int) - 9 - N > 0) by omega), if_neg c2, show 5 + N = N + 5 by omega, if_pos (show 0 ≤ N + 5 by omega), if_pos (show N + 5 ≤ (l.length : Int) by omega)]
            have ht : Byt (l.take (N + 5).toNat) := fun y hy => hl y (List.mem_of_mem_take hy)
            have e4 := low4 (k + 1) [] ((sumN (l.take (N + 5).toNat) : Nat) : Int) (by simp)
            have eq := equal_eq (x := sumB ((sumN (l.take (N + 5).toNat) : Nat) : Int)) (y := l.drop (N + 5).toNat) (by simp [sumB]) (k + 1)
            have e4' : wire_low.f (k + 6) [] ((sumN (l.take (N + 5).toNat) : Nat) : Int) 4 = some (sumB ((sumN (l.take (N + 5).toNat) : Nat) : Int)) := e4
            have eq' : slices_Equal_byte_byte.f (k + 6) (sumB ((sumN (l.take (N + 5).toNat) : Nat) : Int)) (l.drop (N + 5).toNat) = some (decide (sumB ((sumN (l.take (N + 5).toNat) : Nat) : Int) = l.drop (N + 5).toNat)) := eq
            rw [wsum_nat ht, Option.bind_some, e4', Option.bind_some, eq', Option.bind_some]
            by_cases c3 : sumB ((sumN (l.take (N + 5).toNat) : Nat) : Int) = l.drop (N + 5).toNat
            · rw [decide_eq_true c3, if_pos rfl, if_pos c3, if_pos (show 1 < (l.length : Int) by omega), if_pos (show 5 ≤ N + 5 by omega)]
              have hc : slices_Clone_byte_byte.f ((l.take (N + 5).toNat).drop 5) = some ((l.take (N + 5).toNat).drop 5) := by
                unfold slices_Clone_byte_byte.f
                rw [if_pos (by rw [List.length_drop, List.length_take]; omega)]
              rw [hc, Option.bind_some, show wrap64 (rd l 1) = rd l 1 by unfold wrap64; omega]
            · rw [decide_eq_false c3, if_neg (by decide), if_neg c3]
    · rw [if_neg h3, wire_Unframe.j0, if_pos rfl, if_pos (Or.inl h3)]
end Go.Proofs.Ytimfeiobdcmhnaa.PR
