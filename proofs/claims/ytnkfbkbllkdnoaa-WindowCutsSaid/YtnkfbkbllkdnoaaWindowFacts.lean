/- Plain facts of the printed window functions: rectangles, their areas, what two have together, the parts that aren't empty. -/
import Derived.Test.YtnkfbkbllkdnoaaTorusFactsW
import Derived.Test.YtnkfbkbllkdnoaaPWx2
import Derived.Test.YtnkfbkbllkdnoaaPWx6
namespace Go.Proofs.Ytnkfbkbllkdnoaa.PW
open Go.RowKit Go.Proofs.YtnkfbkbllkdnoaaW.PrintWords Go.Proofs.YtnkfbkbllkdnoaaW.PrintLast Go.Proofs.YtnkfbkbllkdnoaaW.PrintMore
set_option linter.unusedVariables false
/-- A rectangle that has cells. -/
def Pos (r : S29) : Prop := 0 ≤ r.f0 ∧ 0 ≤ r.f1 ∧ 0 < r.f2 ∧ 0 < r.f3 ∧ r.f0 + r.f2 ≤ 1073741824 ∧ r.f1 + r.f3 ≤ 1073741824
instance (r : S29) : Decidable (Pos r) := by unfold Pos; exact inferInstance
def Fine (r : S29) : Prop := 0 ≤ r.f0 ∧ 0 ≤ r.f1 ∧ 0 ≤ r.f2 ∧ 0 ≤ r.f3 ∧ r.f0 + r.f2 ≤ 1073741824 ∧ r.f1 + r.f3 ≤ 1073741824
instance (r : S29) : Decidable (Fine r) := by unfold Fine; exact inferInstance
theorem mn4 {a b c d : Int} : mn (mn (mn a b) c) d ≥ 0 ↔ 0 ≤ a ∧ 0 ≤ b ∧ 0 ≤ c ∧ 0 ≤ d := by
  unfold mn
  (repeat' split) <;> omega
theorem mx4 {a b c d m : Int} : mx (mx (mx a b) c) d ≤ m ↔ a ≤ m ∧ b ≤ m ∧ c ≤ m ∧ d ≤ m := by
  unfold mx
  (repeat' split) <;> omega
theorem mx2 {a b m : Int} : mx a b ≤ m ↔ a ≤ m ∧ b ≤ m := by
  unfold mx
  (repeat' split) <;> omega
theorem fine_eq (r : S29) : window_Rect_fine.f r.f0 r.f1 r.f2 r.f3 = some (decide (Fine r)) := by
  unfold window_Rect_fine.f window_Rect_right.f window_Rect_low.f
  simp only [mn4, mx2, Option.bind_some]
  by_cases h1 : 0 ≤ r.f0 ∧ 0 ≤ r.f1 ∧ 0 ≤ r.f2 ∧ 0 ≤ r.f3
  · rw [if_pos h1]
    by_cases h2 : ((r.f0 ≤ 1073741824 ∧ r.f1 ≤ 1073741824) ∧ r.f2 ≤ 1073741824) ∧ r.f3 ≤ 1073741824
    · rw [if_pos h2, wrap64_small (by omega) (by omega), wrap64_small (by omega) (by omega)]
      congr 1
      exact decide_eq_decide.mpr (by unfold Fine; omega)
    · rw [if_neg h2]
      congr 1
      exact (decide_eq_false (by unfold Fine; omega)).symm
  · rw [if_neg h1]
    congr 1
    exact (decide_eq_false (by unfold Fine; omega)).symm
theorem empty_eq (r : S29) : window_Rect_empty.f r.f0 r.f1 r.f2 r.f3 = some (decide (¬ Pos r)) := by
  unfold window_Rect_empty.f
  rw [fine_eq]
  simp only [Option.bind_some, decide_eq_true_eq]
  by_cases h : Fine r
  · rw [if_pos h]
    unfold Fine at h
    by_cases h0 : r.f2 = 0
    · rw [if_pos h0]
      congr 1
      exact (decide_eq_true (by unfold Pos; omega)).symm
    · rw [if_neg h0]
      congr 1
      by_cases h3 : r.f3 = 0
      · rw [h3]
        exact (decide_eq_true (by unfold Pos; omega)).symm
      · rw [beq_false_of_ne h3]
        exact (decide_eq_false (by unfold Pos; omega)).symm
  · rw [if_neg h]
    congr 1
    exact (decide_eq_true (by unfold Pos; unfold Fine at h; omega)).symm
/-- How many cells. -/
def ar (r : S29) : Int := if Pos r then r.f2 * r.f3 else 0
theorem mul_bd {a b m n : Int} (ha : 0 ≤ a) (hb : 0 ≤ b) (ham : a ≤ m) (hbn : b ≤ n) : 0 ≤ a * b ∧ a * b ≤ m * n :=
  ⟨Int.mul_nonneg ha hb, Int.mul_le_mul ham hbn hb (by omega)⟩
theorem area_eq (r : S29) : window_Area.f r.f0 r.f1 r.f2 r.f3 = some (ar r) := by
  unfold window_Area.f ar
  rw [empty_eq]
  simp only [Option.bind_some, decide_eq_true_eq, ite_not]
  by_cases h : Pos r
  · rw [if_pos h, if_pos h]
    unfold Pos at h
    have := mul_bd (a := r.f2) (b := r.f3) (m := 1073741824) (n := 1073741824) (by omega) (by omega) (by omega) (by omega)
    rw [wrap64_small (by omega) (by omega)]
  · rw [if_neg h, if_neg h]
/-- What two rectangles have together. -/
def me (a b : S29) : S29 :=
  if Pos a ∧ Pos b ∧ mx a.f0 b.f0 < mn (a.f0 + a.f2) (b.f0 + b.f2) ∧ mx a.f1 b.f1 < mn (a.f1 + a.f3) (b.f1 + b.f3) then
    ⟨mx a.f0 b.f0, mx a.f1 b.f1, mn (a.f0 + a.f2) (b.f0 + b.f2) - mx a.f0 b.f0, mn (a.f1 + a.f3) (b.f1 + b.f3) - mx a.f1 b.f1⟩ else ⟨0, 0, 0, 0⟩
theorem mn_bd {a b l h : Int} (ha : l ≤ a ∧ a ≤ h) (hb : l ≤ b ∧ b ≤ h) : l ≤ mn a b ∧ mn a b ≤ h := by
  unfold mn
  split <;> omega
theorem mx_bd {a b l h : Int} (ha : l ≤ a ∧ a ≤ h) (hb : l ≤ b ∧ b ≤ h) : l ≤ mx a b ∧ mx a b ≤ h := by
  unfold mx
  split <;> omega
theorem mn_le0 {a b : Int} : mn a b ≤ 0 ↔ a ≤ 0 ∨ b ≤ 0 := by
  unfold mn
  split <;> omega
theorem meet_eq (k : Nat) (a b : S29) : window_Meet.f (k + 1) a.f0 a.f1 a.f2 a.f3 b.f0 b.f1 b.f2 b.f3 = some ((me a b).f0, (me a b).f1, (me a b).f2, (me a b).f3) := by
  unfold window_Meet.f
  rw [empty_eq, empty_eq]
  simp only [Option.bind_some, decide_eq_true_eq, ite_not]
  unfold me
  by_cases ha : Pos a
  · rw [if_pos ha]
    by_cases hb : Pos b
    · rw [decide_eq_false (by simpa using hb)]
      simp only [window_Meet.j0, window_Rect_right.f, window_Rect_low.f, Option.bind_some]
      rw [if_neg (by decide)]
      have ha' := ha
      have hb' := hb
      unfold Pos at ha' hb'
      rw [wrap64_small (x := a.f0 + a.f2) (by omega) (by omega), wrap64_small (x := b.f0 + b.f2) (by omega) (by omega), wrap64_small (x := a.f1 + a.f3) (by omega) (by omega), wrap64_small (x := b.f1 + b.f3) (by omega) (by omega)]
      have q1 := mn_bd (a := a.f0 + a.f2) (b := b.f0 + b.f2) (l := 0) (h := 1073741824) (by omega) (by omega)
      have q2 := mn_bd (a := a.f1 + a.f3) (b := b.f1 + b.f3) (l := 0) (h := 1073741824) (by omega) (by omega)
      have q3 := mx_bd (a := a.f0) (b := b.f0) (l := 0) (h := 1073741824) (by omega) (by omega)
      have q4 := mx_bd (a := a.f1) (b := b.f1) (l := 0) (h := 1073741824) (by omega) (by omega)
      generalize mn (a.f0 + a.f2) (b.f0 + b.f2) = p1 at *
      generalize mn (a.f1 + a.f3) (b.f1 + b.f3) = p2 at *
      generalize mx a.f0 b.f0 = p3 at *
      generalize mx a.f1 b.f1 = p4 at *
      rw [wrap64_small (by omega) (by omega), wrap64_small (by omega) (by omega)]
      simp only [mn_le0]
      by_cases hh : p3 < p1 ∧ p4 < p2
      · rw [if_neg (by omega), if_pos ⟨ha, hb, hh.1, hh.2⟩]
      · rw [if_pos (by omega), if_neg (fun h => hh h.2.2)]
    · rw [decide_eq_true (by simpa using hb)]
      simp only [window_Meet.j0]
      rw [if_pos trivial, if_neg (fun h => hb h.2.1)]
  · rw [if_neg ha]
    simp only [window_Meet.j0]
    rw [if_pos trivial, if_neg (fun h => ha h.1)]
theorem rd29_at (pre : List S29) (r : S29) (post : List S29) : rd_T29 (pre ++ r :: post) (pre.length : Int) = r := by
  unfold rd_T29
  simp
theorem full_loop (k : Nat) (xs : List S29) : ∀ (out pre : List S29), pre.length + xs.length ≤ 1000 → out.length ≤ 1000 + pre.length →
    window_full.l0 (k + 1 + xs.length) out (pre ++ xs) ((pre ++ xs).length : Int) (pre.length : Int) = some (out ++ xs.filter (fun r => decide (Pos r))) := by
  induction xs with
  | nil =>
    intro out pre h1 h2
    simp only [window_full.l0, List.append_nil, List.length_nil, Nat.add_zero]
    rw [if_neg (by omega)]
    simp
  | cons r xs ih =>
    intro out pre h1 h2
    simp only [List.length_cons] at h1
    show window_full.l0 ((k + 1 + xs.length) + 1) _ _ _ _ = _
    simp only [window_full.l0]
    rw [if_pos (by simp; omega), if_pos (by omega), if_pos (by simp; omega), rd29_at, empty_eq]
    simp only [Option.bind_some, decide_eq_true_eq, ite_not]
    have hw : wrap64 ((pre.length : Int) + 1) = ((pre ++ [r]).length : Int) := by rw [wrap64_small (by omega) (by omega)]; simp
    have hl : pre ++ r :: xs = (pre ++ [r]) ++ xs := by simp
    by_cases hp : Pos r
    · rw [if_pos hp, if_pos (by omega), hw, hl, ih _ _ (by simp; omega) (by simp; omega), List.filter_cons_of_pos (by simpa using hp)]
      simp
    · rw [if_neg hp, hw, hl, ih _ _ (by simp; omega) (by simp; omega), List.filter_cons_of_neg (by simpa using hp)]
theorem full_eq (k : Nat) (xs : List S29) (h : xs.length ≤ 1000) : window_full.f (k + 1 + xs.length) xs = some (xs.filter (fun r => decide (Pos r))) := by
  unfold window_full.f
  simpa using full_loop k xs [] [] (by simpa using h) (by simp)
theorem full_one (k : Nat) (r : S29) : window_full.f (k + 2) [r] = some ([r].filter (fun r => decide (Pos r))) := full_eq k [r] (by simp)
/-- May a window be? -/
def Wn (n x y w h : Int) : Prop := (0 ≤ x ∧ x < n) ∧ (0 ≤ y ∧ y < n) ∧ (0 ≤ w ∧ w ≤ n) ∧ (0 ≤ h ∧ h ≤ n)
instance (n x y w h : Int) : Decidable (Wn n x y w h) := by unfold Wn; exact inferInstance
def parts (n x y w h : Int) : List S29 := [⟨x, y, mn w (n - x), mn h (n - y)⟩, ⟨x, 0, mn w (n - x), h - mn h (n - y)⟩, ⟨0, y, w - mn w (n - x), mn h (n - y)⟩, ⟨0, 0, w - mn w (n - x), h - mn h (n - y)⟩]
def plain (n x y w h : Int) : List S29 := (parts n x y w h).filter (fun r => decide (Pos r))
theorem plain_eq {K n x y w h : Int} (hk : OkT K n) (k : Nat) (hw : Wn n x y w h) : window_Plain.f (k + 2) K x y w h = some (plain n x y w h, 0) := by
  obtain ⟨h1, h2, h3, h4⟩ := hw
  have hb := okT_bd hk
  unfold window_Plain.f
  rw [side_eq hk, Option.bind_some, has_yes hk h1 h2, Option.bind_some, if_pos rfl]
  rw [if_neg (by unfold mn; split <;> omega), if_neg (by unfold mx; split <;> omega)]
  rw [wrap64_small (x := n - x) (by omega) (by omega), wrap64_small (x := n - y) (by omega) (by omega)]
  have q1 := mn_bd (a := w) (b := n - x) (l := 0) (h := n) (by omega) (by omega)
  have q2 := mn_bd (a := h) (b := n - y) (l := 0) (h := n) (by omega) (by omega)
  unfold plain parts
  generalize mn w (n - x) = a at *
  generalize mn h (n - y) = b at *
  rw [wrap64_small (x := w - a) (by omega) (by omega), wrap64_small (x := h - b) (by omega) (by omega)]
  rw [full_one, full_one, full_one, full_one]
  simp only [Option.bind_some]
  have hl : ∀ r : S29, ([r].filter (fun r => decide (Pos r))).length ≤ 1 := fun r => List.length_filter_le _ _
  rw [if_pos (by have := hl ⟨x, y, a, b⟩; have := hl ⟨x, 0, a, h - b⟩; have := hl ⟨0, y, w - a, b⟩; have := hl ⟨0, 0, w - a, h - b⟩; omega)]
  congr 2
  simp only [← List.filter_append]
  rfl
theorem plain_no {K x y w h : Int} (k : Nat) (hh : ∀ n, OkT K n → ¬ Wn n x y w h) : window_Plain.f k K x y w h = some ([], 1) := by
  unfold window_Plain.f
  by_cases hK : 1 ≤ K ∧ K ≤ 16
  · have hk := okT_of hK
    have hw := hh _ hk
    generalize hn : (2 : Int) ^ K.toNat = n at *
    rw [side_eq hk, Option.bind_some, has_eq hk, Option.bind_some]
    by_cases h1 : 0 ≤ x ∧ x < n ∧ 0 ≤ y ∧ y < n
    · rw [if_pos (by simpa using h1)]
      by_cases h2 : mn w h < 0
      · rw [if_pos h2]
      · rw [if_neg h2]
        by_cases h3 : mx w h > n
        · rw [if_pos h3]
        · exfalso
          apply hw
          unfold Wn
          unfold mn at h2
          unfold mx at h3
          split at h2 <;> split at h3 <;> omega
    · rw [if_neg (by simpa using h1)]
  · rw [side_no hK, Option.bind_some, has_no hK, Option.bind_some, if_neg (by decide)]
/-- Is a rectangle one of the torus? -/
theorem right_eq {K n : Int} (hk : OkT K n) (r : S29) : window_Right.f K r.f0 r.f1 r.f2 r.f3 = some (decide (0 ≤ r.f0 ∧ 0 ≤ r.f1 ∧ 0 ≤ r.f2 ∧ 0 ≤ r.f3 ∧ r.f0 + r.f2 ≤ n ∧ r.f1 + r.f3 ≤ n)) := by
  have hb := okT_bd hk
  unfold window_Right.f
  rw [side_eq hk, Option.bind_some, if_pos (by omega)]
  simp only [mn4, mx4]
  by_cases h1 : 0 ≤ r.f0 ∧ 0 ≤ r.f1 ∧ 0 ≤ r.f2 ∧ 0 ≤ r.f3
  · rw [if_pos h1]
    by_cases h2 : r.f0 ≤ n ∧ r.f1 ≤ n ∧ r.f2 ≤ n ∧ r.f3 ≤ n
    · rw [if_pos h2, wrap64_small (by omega) (by omega), wrap64_small (by omega) (by omega)]
      by_cases h3 : r.f0 + r.f2 ≤ n
      · rw [if_pos h3]
        congr 1
        exact decide_eq_decide.mpr (by omega)
      · rw [if_neg h3]
        congr 1
        exact (decide_eq_false (by omega)).symm
    · rw [if_neg h2]
      congr 1
      exact (decide_eq_false (by omega)).symm
  · rw [if_neg h1]
    congr 1
    exact (decide_eq_false (by omega)).symm
theorem right_no {K : Int} (hK : ¬ (1 ≤ K ∧ K ≤ 16)) (a b c d : Int) : window_Right.f K a b c d = some false := by
  unfold window_Right.f
  rw [side_no hK, Option.bind_some, if_neg (by decide)]
theorem fine_of_pos {r : S29} (h : Pos r) : Fine r := by
  unfold Pos at h
  unfold Fine
  omega
end Go.Proofs.Ytnkfbkbllkdnoaa.PW
