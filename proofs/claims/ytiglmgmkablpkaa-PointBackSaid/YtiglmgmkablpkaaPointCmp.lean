/- What point.Compare tells: an order of cells and keys. -/
import Derived.Test.YtiglmgmkablpkaaPKx3
import Derived.Test.YtiglmgmkablpkaaPKx1
namespace Go.Proofs.Ytiglmgmkablpkaa.PK
open Go.RowKit Go.Proofs.YtiglmgmkablpkaaW.PrintWords Go.Proofs.YtiglmgmkablpkaaW.PrintLast Go.Proofs.YtiglmgmkablpkaaW.PrintMore
set_option linter.unusedVariables false
set_option linter.unusedSimpArgs false
def cI (x y : Int) : Int := if x < y then -1 else if x > y then 1 else 0
def or3 (a b c : Int) : Int := if a = 0 then (if b = 0 then c else b) else a
theorem cI_f (x y : Int) : cmp_Compare_int.f x y = some (cI x y) := by
  unfold cmp_Compare_int.f cmp_isNaN_int.f cI
  simp only [Option.bind_some, bne_self_eq_false, Bool.false_eq_true, if_false]
  split
  · rfl
  · split <;> rfl
theorem or3_f (a b c : Int) : cmp_Or_int.f 4 [a, b, c] = some (or3 a b c) := by
  unfold cmp_Or_int.f or3
  by_cases h1 : a = 0
  · subst h1
    by_cases h2 : b = 0
    · subst h2
      by_cases h3 : c = 0
      · subst h3; simp [cmp_Or_int.l0, rd, wrap64]
      · simp [cmp_Or_int.l0, rd, wrap64, h3]
    · simp [cmp_Or_int.l0, rd, wrap64, h2]
  · simp [cmp_Or_int.l0, rd, wrap64, h1]
abbrev cB (a b : ByteArray) : Int := Lib.compareBytes a.data.toList b.data.toList
def cmpP (ax ay : Int) (ak : ByteArray) (bx bY : Int) (bk : ByteArray) : Int := or3 (cI ay bY) (cI ax bx) (cB ak bk)
theorem cmpP_f (ax ay : Int) (ak av : ByteArray) (an : Int) (bx bY : Int) (bk bv : ByteArray) (bn : Int) : point_Compare.f 4 ax ay ak av an bx bY bk bv bn = some (cmpP ax ay ak bx bY bk) := by
  unfold point_Compare.f
  rw [cI_f, cI_f]
  simp only [Option.bind_some, strings_Compare.f, bytealg_CompareString.f, or3_f]
  rfl
theorem cb_swap : ∀ a b : List UInt8, Lib.compareBytes b a = - Lib.compareBytes a b
  | [], [] => rfl
  | [], _ :: _ => rfl
  | _ :: _, [] => rfl
  | x :: a, y :: b => by
    unfold Lib.compareBytes
    have ih := cb_swap a b
    simp only [UInt8.lt_iff_toNat_lt] at *
    by_cases h1 : x.toNat < y.toNat
    · rw [if_pos h1, if_neg (by omega), if_pos h1]; rfl
    · rw [if_neg h1]
      by_cases h2 : y.toNat < x.toNat
      · rw [if_pos h2, if_neg h1, if_pos h2]
      · rw [if_neg h2, if_neg h1, if_neg h2, ih]
theorem cb_zero : ∀ a b : List UInt8, Lib.compareBytes a b = 0 ↔ a = b
  | [], [] => by simp [Lib.compareBytes]
  | [], _ :: _ => by simp [Lib.compareBytes]
  | _ :: _, [] => by simp [Lib.compareBytes]
  | x :: a, y :: b => by
    have ih := cb_zero a b
    unfold Lib.compareBytes
    by_cases h1 : x < y
    · rw [if_pos h1]
      have : x ≠ y := by rintro rfl; simp [UInt8.lt_iff_toNat_lt] at h1
      simp [this]
    · rw [if_neg h1]
      by_cases h2 : y < x
      · rw [if_pos h2]
        have : x ≠ y := by rintro rfl; exact h1 h2
        simp [this]
      · rw [if_neg h2, ih]
        have : x = y := by
          simp only [UInt8.lt_iff_toNat_lt] at h1 h2
          exact UInt8.toNat_inj.mp (by omega)
        simp [this]
theorem cb_range : ∀ a b : List UInt8, -1 ≤ Lib.compareBytes a b ∧ Lib.compareBytes a b ≤ 1
  | [], [] => by simp [Lib.compareBytes]
  | [], _ :: _ => by simp [Lib.compareBytes]
  | _ :: _, [] => by simp [Lib.compareBytes]
  | x :: a, y :: b => by
    have ih := cb_range a b
    unfold Lib.compareBytes
    split
    · simp
    · split
      · simp
      · exact ih
theorem cb_trans : ∀ a b c : List UInt8, Lib.compareBytes a b ≤ 0 → Lib.compareBytes b c ≤ 0 → Lib.compareBytes a c ≤ 0
  | [], _, [] => fun _ _ => by simp [Lib.compareBytes]
  | [], _, _ :: _ => fun _ _ => by simp [Lib.compareBytes]
  | _ :: _, [], _ => fun h _ => by simp [Lib.compareBytes] at h
  | _ :: _, _ :: _, [] => fun _ h => by simp [Lib.compareBytes] at h
  | x :: a, y :: b, z :: c => by
    have ih := cb_trans a b c
    unfold Lib.compareBytes
    simp only [UInt8.lt_iff_toNat_lt]
    intro h1 h2
    by_cases p1 : x.toNat < y.toNat
    · by_cases q1 : y.toNat < z.toNat
      · rw [if_pos (by omega)]; omega
      · rw [if_neg q1] at h2
        by_cases q2 : z.toNat < y.toNat
        · rw [if_pos q2] at h2; omega
        · rw [if_pos (by omega)]; omega
    · rw [if_neg p1] at h1
      by_cases p2 : y.toNat < x.toNat
      · rw [if_pos p2] at h1; omega
      · rw [if_neg p2] at h1
        by_cases q1 : y.toNat < z.toNat
        · rw [if_pos (by omega)]; omega
        · rw [if_neg q1] at h2
          by_cases q2 : z.toNat < y.toNat
          · rw [if_pos q2] at h2; omega
          · rw [if_neg q2] at h2
            rw [if_neg (by omega), if_neg (by omega)]
            exact ih h1 h2
theorem cmpP_le (ax ay : Int) (ak : ByteArray) (bx bY : Int) (bk : ByteArray) : cmpP ax ay ak bx bY bk ≤ 0 ↔ (ay < bY ∨ ay = bY ∧ (ax < bx ∨ ax = bx ∧ cB ak bk ≤ 0)) := by
  unfold cmpP or3 cI
  generalize cB ak bk = p
  repeat' split
  all_goals omega
theorem cmpP_zero (ax ay : Int) (ak : ByteArray) (bx bY : Int) (bk : ByteArray) : cmpP ax ay ak bx bY bk = 0 ↔ (ax = bx ∧ ay = bY ∧ ak.toList = bk.toList) := by
  have h := cb_zero ak.data.toList bk.data.toList
  have h : cB ak bk = 0 ↔ ak.data.toList = bk.data.toList := h
  rw [ByteArray.toList_eq, ByteArray.toList_eq, ← h]
  clear h
  unfold cmpP or3 cI
  generalize cB ak bk = p
  repeat' split
  all_goals omega
theorem cmpP_swap (ax ay : Int) (ak : ByteArray) (bx bY : Int) (bk : ByteArray) : cmpP bx bY bk ax ay ak = - cmpP ax ay ak bx bY bk := by
  unfold cmpP or3 cI
  have h := cb_swap ak.data.toList bk.data.toList
  have h : cB bk ak = - cB ak bk := h
  rw [h]
  generalize cB ak bk = p
  repeat' split
  all_goals omega
theorem cmpP_range (ax ay : Int) (ak : ByteArray) (bx bY : Int) (bk : ByteArray) : -1 ≤ cmpP ax ay ak bx bY bk ∧ cmpP ax ay ak bx bY bk ≤ 1 := by
  unfold cmpP or3 cI
  have h := cb_range ak.data.toList bk.data.toList
  have h : -1 ≤ cB ak bk ∧ cB ak bk ≤ 1 := h
  generalize cB ak bk = p at h
  repeat' split
  all_goals omega
theorem cmpP_trans (ax ay : Int) (ak : ByteArray) (bx bY : Int) (bk : ByteArray) (cx cy : Int) (ck : ByteArray) (h1 : cmpP ax ay ak bx bY bk ≤ 0) (h2 : cmpP bx bY bk cx cy ck ≤ 0) : cmpP ax ay ak cx cy ck ≤ 0 := by
  rw [cmpP_le] at *
  have h : cB ak bk ≤ 0 → cB bk ck ≤ 0 → cB ak ck ≤ 0 := cb_trans _ _ _
  omega
theorem long3 (s1 s2 s3 : ByteArray) : ∃ b, glebelaw07_long.f 4 [s1, s2, s3] = some b := by
  unfold glebelaw07_long.f
  have e1 : wrap64 (0 + 1) = 1 := by simp [wrap64]
  have e2 : wrap64 (1 + 1) = 2 := by simp [wrap64]
  have e3 : wrap64 (2 + 1) = 3 := by simp [wrap64]
  simp only [glebelaw07_long.l0, List.length_cons, List.length_nil, e1, e2, e3]
  by_cases h1 : ((rdOf ByteArray.empty [s1, s2, s3] 0).size : Int) > 500
  · exact ⟨true, by rw [if_pos (by decide), if_pos (by decide), if_pos h1]⟩
  · by_cases h2 : ((rdOf ByteArray.empty [s1, s2, s3] 1).size : Int) > 500
    · exact ⟨true, by rw [if_pos (by decide), if_pos (by decide), if_neg h1, if_pos (by decide), if_pos (by decide), if_pos h2]⟩
    · by_cases h3 : ((rdOf ByteArray.empty [s1, s2, s3] 2).size : Int) > 500
      · exact ⟨true, by rw [if_pos (by decide), if_pos (by decide), if_neg h1, if_pos (by decide), if_pos (by decide), if_neg h2, if_pos (by decide), if_pos (by decide), if_pos h3]⟩
      · exact ⟨false, by rw [if_pos (by decide), if_pos (by decide), if_neg h1, if_pos (by decide), if_pos (by decide), if_neg h2, if_pos (by decide), if_pos (by decide), if_neg h3, if_neg (by decide)]⟩
end Go.Proofs.Ytiglmgmkablpkaa.PK
