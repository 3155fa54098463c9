/- Bits turned within 32: the checksum tells it. -/
import Derived.Test.YtimfeiobdcmhnaaWireUnframe
namespace Go.Proofs.Ytimfeiobdcmhnaa.PR
open Go.RowKit Go.Proofs.YtimfeiobdcmhnaaW.PrintWords Go.Proofs.YtimfeiobdcmhnaaW.PrintLast Go.Proofs.YtimfeiobdcmhnaaW.PrintMore
set_option linter.unusedVariables false
/-- Bytes as one number, the lowest first. -/
def leN : List Int → Nat
  | [] => 0
  | z :: l => z.toNat + 256 * leN l
theorem itr_add (x : Nat) : ∀ b a, itr (a + b) x = itr b (itr a x)
  | 0, a => rfl
  | b + 1, a => by rw [← Nat.add_assoc, itr, itr_add x b a, itr]
theorem crcN_le : ∀ (l : List Int) (c : Nat), Byt l → crcN c l = itr (8 * l.length) (c ^^^ leN l)
  | [], c, _ => by simp [crcN, leN, itr]
  | z :: l, c, hl => by
    have hz := hl z (by simp)
    have h := crcN_le l (nxt c z) (fun y hy => hl y (by simp [hy]))
    have e : crcN c (z :: l) = crcN (nxt c z) l := rfl
    have x := xor_low 8 z.toNat (leN l) (by omega)
    rw [e, h, leN, show 256 * leN l = 2 ^ 8 * leN l by omega, ← x, ← Nat.xor_assoc, List.length_cons, show 8 * (l.length + 1) = 8 + 8 * l.length by omega, itr_add, itr_high]
    rfl
theorem stp_lin (x y : Nat) : stp (x ^^^ y) = stp x ^^^ stp y := by
  unfold stp
  rw [xor_mod2, Nat.xor_div_two]
  by_cases hx : x % 2 = 1 <;> by_cases hy : y % 2 = 1
  · rw [if_neg (by omega), if_pos hx, if_pos hy, Nat.xor_assoc (x / 2) cP, ← Nat.xor_assoc cP, Nat.xor_comm cP (y / 2), Nat.xor_assoc (y / 2), Nat.xor_self, Nat.xor_zero]
  · rw [if_pos (by omega), if_pos hx, if_neg hy, Nat.xor_assoc, Nat.xor_comm (y / 2), ← Nat.xor_assoc]
  · rw [if_pos (by omega), if_neg hx, if_pos hy, Nat.xor_assoc]
  · rw [if_neg (by omega), if_neg hx, if_neg hy]
theorem itr_lin (x y : Nat) : ∀ k, itr k (x ^^^ y) = itr k x ^^^ itr k y
  | 0 => rfl
  | k + 1 => by rw [itr, itr_lin x y k, stp_lin, itr, itr]
theorem itr_zero : ∀ k, itr k 0 = 0
  | 0 => rfl
  | k + 1 => by rw [itr, itr_zero k]; rfl
/-- Two rows that are told apart by a burst are told apart by the sum. -/
theorem burst {T T' : List Int} (hT : Byt T) (hT' : Byt T') (hl : T'.length = T.length) (c a M : Nat) (ha : a ≤ 8 * T.length) (hM : M < 4294967296) (he : leN T' = leN T ^^^ 2 ^ a * M) (h : crcN c T' = crcN c T) : M = 0 := by
  rw [crcN_le T' c hT', crcN_le T c hT, hl, he, itr_lin, itr_lin, itr_lin c] at h
  have h1 : itr (8 * T.length) (2 ^ a * M) = 0 := by
    have h2 : itr (8 * T.length) (2 ^ a * M) ^^^ (itr (8 * T.length) c ^^^ itr (8 * T.length) (leN T)) = 0 ^^^ (itr (8 * T.length) c ^^^ itr (8 * T.length) (leN T)) := by
      rw [Nat.zero_xor, Nat.xor_comm, Nat.xor_assoc]
      exact h
    exact xor_cancel h2
  have h3 := itr_high 0 a M
  rw [Nat.zero_xor, itr_zero, Nat.zero_xor] at h3
  rw [show 8 * T.length = a + (8 * T.length - a) by omega, itr_add, h3] at h1
  exact itr_inj hM (by decide) _ (h1.trans (itr_zero _).symm)
/-! ### the sum's bytes -/
theorem leN_sumB (s : Nat) (hs : s < 4294967296) : leN (sumB (s : Int)) = s := by
  unfold sumB
  simp only [leN]
  omega
theorem sumB_byt (s : Nat) : Byt (sumB (s : Int)) := by
  intro z hz
  simp [sumB] at hz
  omega
theorem leN_inj : ∀ {x y : List Int}, Byt x → Byt y → x.length = y.length → leN x = leN y → x = y
  | [], [], _, _, _, _ => rfl
  | a :: x, b :: y, hx, hy, hl, h => by
    have ha := hx a (by simp)
    have hb := hy b (by simp)
    simp only [leN] at h
    have e1 : a = b := by omega
    have e2 : leN x = leN y := by omega
    rw [e1, leN_inj (fun z hz => hx z (by simp [hz])) (fun z hz => hy z (by simp [hz])) (by simpa using hl) e2]
  | [], _ :: _, _, _, hl, _ => by simp at hl
  | _ :: _, [], _, _, hl, _ => by simp at hl
/-- Content and sum, when they fit: what the register tells. -/
theorem fits {hd C : List Int} (hh : Byt hd) (hC : Byt C) : crcN (crcN 4294967295 hd) (C ++ sumB ((sumN (hd ++ C) : Nat) : Int)) = itr 32 4294967295 := by
  have hb : Byt (hd ++ C) := fun z hz => (List.mem_append.mp hz).elim (hh z) (hC z)
  have h1 : crcN (crcN 4294967295 hd) C = crcN 4294967295 (hd ++ C) := by unfold crcN; rw [List.foldl_append]
  have h2 : crcN (crcN 4294967295 hd) (C ++ sumB ((sumN (hd ++ C) : Nat) : Int)) = crcN (crcN 4294967295 (hd ++ C)) (sumB ((sumN (hd ++ C) : Nat) : Int)) := by
    rw [← h1]
    unfold crcN
    rw [List.foldl_append]
  rw [h2, crcN_le _ _ (sumB_byt _), leN_sumB _ (sumN_bd hb)]
  show itr 32 _ = _
  congr 1
  unfold sumN
  rw [← Nat.xor_assoc, Nat.xor_self, Nat.zero_xor]
/-! ### a bit turned in a row of bytes -/
theorem pow_xor (k a b : Nat) : 2 ^ k * (a ^^^ b) = 2 ^ k * a ^^^ 2 ^ k * b := by
  have h := Nat.shiftLeft_xor_distrib (a := a) (b := b) (i := k)
  simp only [Nat.shiftLeft_eq] at h
  rw [Nat.mul_comm, Nat.mul_comm (2 ^ k) a, Nat.mul_comm (2 ^ k) b]
  exact h
theorem leN_flip (b : Nat) (hb : b < 8) : ∀ (T : List Int) (i : Nat) (hi : i < T.length), Byt T → leN (T.set i ((T[i].toNat ^^^ 2 ^ b : Nat) : Int)) = leN T ^^^ 2 ^ (8 * i + b)
  | z :: T, 0, _, hT => by
    have hz := hT z (by simp)
    have hp : 2 ^ b < 2 ^ 8 := Nat.pow_lt_pow_right (show 1 < 2 by omega) hb
    have h1 := xor_low 8 z.toNat (leN T) (by omega)
    have h2 := xor_low 8 (z.toNat ^^^ 2 ^ b) (leN T) (Nat.xor_lt_two_pow (by omega) hp)
    simp only [List.set_cons_zero, leN, List.getElem_cons_zero, Int.toNat_natCast, Nat.mul_zero, Nat.zero_add]
    rw [show 256 * leN T = 2 ^ 8 * leN T by omega, ← h1, ← h2, Nat.xor_assoc, Nat.xor_comm (2 ^ b), ← Nat.xor_assoc]
  | z :: T, i + 1, hi, hT => by
    have hz := hT z (by simp)
    have hi' : i < T.length := by simpa using hi
    have ih := leN_flip b hb T i hi' (fun y hy => hT y (by simp [hy]))
    have h1 := xor_low 8 z.toNat (leN T) (by omega)
    have h2 := xor_low 8 z.toNat (leN T ^^^ 2 ^ (8 * i + b)) (by omega)
    simp only [List.set_cons_succ, leN, List.getElem_cons_succ]
    rw [ih, show 256 * (leN T ^^^ 2 ^ (8 * i + b)) = 2 ^ 8 * (leN T ^^^ 2 ^ (8 * i + b)) by omega, ← h2, pow_xor, show 256 * leN T = 2 ^ 8 * leN T by omega, ← h1, ← Nat.xor_assoc, ← Nat.pow_add, show 8 + (8 * i + b) = 8 * (i + 1) + b by omega]
end Go.Proofs.Ytimfeiobdcmhnaa.PR
