/- Paths by the reference. -/
import Derived.Test.YtnkfbkbllkdnoaaWindowPath
import Derived.Test.YtnkfbkbllkdnoaaWindowRef
import Derived.Test.YtnkfbkbllkdnoaaPWx1
namespace Go.Proofs.Ytnkfbkbllkdnoaa.PW
open Go.RowKit Go.Proofs.YtnkfbkbllkdnoaaW.PrintWords Go.Proofs.YtnkfbkbllkdnoaaW.PrintLast Go.Proofs.YtnkfbkbllkdnoaaW.PrintMore
set_option linter.unusedVariables false
theorem rpright_eq (K d b : Int) : gleberef03_Right.f K d b = some (decide (PathOk K d b)) := by
  unfold gleberef03_Right.f
  rw [rright_eq, Option.bind_some]
  by_cases h1 : 1 ≤ K ∧ K ≤ 16
  · rw [if_pos (by simpa using h1)]
    by_cases h3 : d ≥ 0
    · rw [if_pos h3, wrap64_small (by omega) (by omega)]
      by_cases h4 : d ≤ 2 * K
      · rw [if_pos h4]
        by_cases h5 : b ≥ 0
        · rw [if_pos h5, if_pos (by rw [u64_small (by omega)]; omega), shl_one (by omega)]
          congr 1
          exact decide_eq_decide.mpr ⟨fun h => ⟨h1, ⟨h3, h4⟩, h5, h⟩, fun h => h.2.2.2⟩
        · rw [if_neg h5]
          congr 1
          exact (decide_eq_false (fun h => h5 h.2.2.1)).symm
      · rw [if_neg h4]
        congr 1
        exact (decide_eq_false (fun h => h4 h.2.1.2)).symm
    · rw [if_neg h3]
      congr 1
      exact (decide_eq_false (fun h => h3 h.2.1.1)).symm
  · rw [if_neg (by simpa using h1)]
    congr 1
    exact (decide_eq_false (fun h => h1 h.1)).symm
/-- The path's digits as text, i of them from the right. -/
def digs (b : Int) : Nat → List UInt8
  | 0 => []
  | i + 1 => UInt8.ofNat (48 + (b / 2 ^ i % 2).toNat) :: digs b i
theorem digs_len (b : Int) (i : Nat) : (digs b i).length = i := by
  induction i with
  | zero => rfl
  | succ i ih => simp [digs, ih]
theorem bt_list (l : List UInt8) (i : Nat) (c : UInt8) (h : l[i]? = some c) : bt ⟨l.toArray⟩ (i : Int) = (c.toNat : Int) := by
  have hlt : i < l.length := by
    rcases Nat.lt_or_ge i l.length with h' | h'
    · exact h'
    · rw [List.getElem?_eq_none h'] at h; cases h
  rw [List.getElem?_eq_getElem hlt] at h
  have hs : (i : Int).toNat < (⟨l.toArray⟩ : ByteArray).size := by simpa [ByteArray.size] using hlt
  rw [← bt_at _ _ hs]
  injection h with h
  rw [← h]
  rfl
theorem digs_at (b : Int) (i : Nat) : ∀ j, j < i → (digs b i)[j]? = some (UInt8.ofNat (48 + (b / 2 ^ (i - 1 - j) % 2).toNat)) := by
  induction i with
  | zero => intro j h; omega
  | succ i ih =>
    intro j h
    cases j with
    | zero => simp [digs]
    | succ j =>
      simp only [digs, List.getElem?_cons_succ]
      rw [ih j (by omega), show i + 1 - 1 - (j + 1) = i - 1 - j by omega]
theorem str_cons (c : Int) (l : List UInt8) : strOfNums [c] ++ (⟨l.toArray⟩ : ByteArray) = ⟨(UInt8.ofNat c.toNat :: l).toArray⟩ := by
  apply ByteArray.ext
  simp [strOfNums]
theorem halves_loop {d b : Int} (hd : 0 ≤ d ∧ d ≤ 32) (hb : 0 ≤ b) (k j : Nat) : ∀ i : Nat, (i : Int) + j = d → gleberef03_Halves.l0 (k + 1 + j) ⟨(digs b i).toArray⟩ (i : Int) d b = some ⟨(digs b (i + j)).toArray⟩ := by
  induction j with
  | zero =>
    intro i h
    simp only [gleberef03_Halves.l0]
    rw [if_neg (by omega)]
    rfl
  | succ j ih =>
    intro i h
    show gleberef03_Halves.l0 ((k + 1 + j) + 1) _ _ _ _ = _
    simp only [gleberef03_Halves.l0]
    have hq : 0 ≤ b / 2 ^ i := Int.ediv_nonneg hb (Int.le_of_lt (Int.pow_pos (by decide)))
    rw [if_pos (by omega), u64_small (by omega), if_pos (by omega), Option.bind_some]
    have hc : (wrap64 (48 + Int.tmod (shr .i64 b (i : Int)) 2)) % 256 = 48 + b / 2 ^ i % 2 := by
      unfold shr
      rw [show min (i : Int).toNat IntKind.i64.bits = i from Nat.min_eq_left (by show i ≤ 64; omega), Int.tmod_eq_emod_of_nonneg hq, wrap64_small (by omega) (by omega)]
      omega
    rw [hc, str_cons, if_pos (by simp [strOfNums, ByteArray.size, digs_len]; omega), wrap_inc _ (by omega)]
    have h1 := ih (i + 1) (by omega)
    rw [show i + 1 + j = i + (j + 1) by omega] at h1
    have he : UInt8.ofNat (48 + b / 2 ^ i % 2).toNat :: digs b i = digs b (i + 1) := by
      simp only [digs]
      congr 2
      omega
    rw [he]
    exact h1
theorem halves_str {d b : Int} (hd : 0 ≤ d ∧ d ≤ 32) (hb : 0 ≤ b) (k : Nat) : gleberef03_Halves.f (k + 33) d b = some ⟨(digs b d.toNat).toArray⟩ := by
  unfold gleberef03_Halves.f
  have h := halves_loop hd hb (k + 32 - d.toNat) d.toNat 0 (by omega)
  rw [show k + 32 - d.toNat + 1 + d.toNat = k + 33 by omega] at h
  simpa [digs] using h
/-- How many halvings go across, of i. -/
theorem corner_loop {s d b : Int} (hs : 0 ≤ s ∧ s ≤ 65536) (hd : 0 ≤ d ∧ d ≤ 32) (hb : 0 ≤ b) (k j : Nat) : ∀ i : Nat, (i : Int) + j = d →
    gleberef03_Corner.l0 (k + 1 + j) (cornerOf s (halves d b i)).w (cornerOf s (halves d b i)).h ⟨(digs b d.toNat).toArray⟩ (i : Int) (cornerOf s (halves d b i)).x (cornerOf s (halves d b i)).y =
      some ((zone s d b).f0, (zone s d b).f1, (zone s d b).f2, (zone s d b).f3) := by
  have hsz : (⟨(digs b d.toNat).toArray⟩ : ByteArray).size = d.toNat := by simp [ByteArray.size, digs_len]
  induction j with
  | zero =>
    intro i h
    simp only [gleberef03_Corner.l0]
    rw [if_neg (by rw [hsz]; omega)]
    unfold zone cnR
    rw [show d.toNat = i by omega]
  | succ j ih =>
    intro i h
    have h1 := ih (i + 1) (by omega)
    rw [halves_succ, cornerOf_snoc] at h1
    have ok := cnOk_of hs.1 (halves d b i)
    generalize cornerOf s (halves d b i) = c at *
    obtain ⟨k1, k2, k3, k4, k5, k6⟩ := ok
    show gleberef03_Corner.l0 ((k + 1 + j) + 1) _ _ _ _ _ _ = _
    simp only [gleberef03_Corner.l0]
    rw [if_pos (by rw [hsz]; omega)]
    have hbt : bt ⟨(digs b d.toNat).toArray⟩ (i : Int) = 48 + b / 2 ^ (d.toNat - 1 - i) % 2 := by
      rw [bt_list _ i _ (digs_at b d.toNat i (by omega))]
      have h2 : (b / 2 ^ (d.toNat - 1 - i) % 2).toNat < 2 := by omega
      rw [UInt8.toNat_ofNat']
      omega
    have hbit := halfBit_eq d b i
    rw [Int.tdiv_eq_ediv_of_nonneg k3, Int.tdiv_eq_ediv_of_nonneg k4, wrap64_small (x := c.w / 2) (by omega) (by omega), wrap64_small (x := c.h / 2) (by omega) (by omega), Int.tmod_eq_emod_of_nonneg (by omega), hbt, wrap_inc _ (by omega)]
    unfold halfAt at h1
    simp only [hbit] at h1
    generalize b / 2 ^ (d.toNat - 1 - i) % 2 = z at *
    have hz : z = 0 ∨ z = 1 := by
      have := halfBit_eq d b i
      omega
    unfold Cn.step at h1
    dsimp only at h1
    by_cases hi : (i : Int) % 2 = 0
    · rw [if_pos hi, if_pos (by omega), wrap64_small (x := c.x + c.w / 2) (by omega) (by omega)]
      rw [if_neg (by simp; omega)] at h1
      dsimp only at h1
      rcases hz with rfl | rfl
      · rw [if_neg (by decide)]
        simpa using h1
      · rw [if_pos (by decide)]
        simpa using h1
    · rw [if_neg hi, if_pos (by omega), wrap64_small (x := c.y + c.h / 2) (by omega) (by omega)]
      rw [if_pos (by simp; omega)] at h1
      dsimp only at h1
      rcases hz with rfl | rfl
      · rw [if_neg (by decide)]
        simpa using h1
      · rw [if_pos (by decide)]
        simpa using h1
theorem rof_eq {K n d b : Int} (hk : OkT K n) (h : PathOk K d b) (k : Nat) : gleberef04_Of.f (k + 33) K d b = some ((zone n d b).f0, (zone n d b).f1, (zone n d b).f2, (zone n d b).f3, 0) := by
  have hb := okT_bd hk
  have h' := h
  obtain ⟨h1, h2, h3, h4⟩ := h'
  unfold gleberef04_Of.f gleberef03_Corner.f
  rw [rpright_eq, decide_eq_true h]
  simp only [Option.bind_some, if_true]
  rw [show k + 33 = (k + 16) + 17 from rfl, rside_eq hk, Option.bind_some, show k + 16 + 17 = k + 33 from rfl, halves_str (by omega) h3, Option.bind_some]
  have hl := corner_loop (s := n) (d := d) (b := b) (by omega) (by omega) h3 (k + 32 - d.toNat) d.toNat 0 (by omega)
  rw [show k + 32 - d.toNat + 1 + d.toNat = k + 33 by omega] at hl
  have e0 : cornerOf n (halves d b 0) = ⟨0, 0, n, n⟩ := rfl
  rw [e0] at hl
  rw [show ((0 : Nat) : Int) = 0 from rfl] at hl
  dsimp only at hl
  rw [hl]
  rfl
theorem rof_no {K d b : Int} (h : ¬ PathOk K d b) (k : Nat) : gleberef04_Of.f k K d b = some (0, 0, 0, 0, 1) := by
  unfold gleberef04_Of.f
  rw [rpright_eq, decide_eq_false h]
  rfl
end Go.Proofs.Ytnkfbkbllkdnoaa.PW
