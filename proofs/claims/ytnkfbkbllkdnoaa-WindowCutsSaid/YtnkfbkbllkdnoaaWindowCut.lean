/- What a zone has of a window, by the code and by the reference. -/
import Derived.Test.YtnkfbkbllkdnoaaWindowPath
import Derived.Test.YtnkfbkbllkdnoaaPWx9
namespace Go.Proofs.Ytnkfbkbllkdnoaa.PW
open Go.RowKit Go.Proofs.YtnkfbkbllkdnoaaW.PrintWords Go.Proofs.YtnkfbkbllkdnoaaW.PrintLast Go.Proofs.YtnkfbkbllkdnoaaW.PrintMore
set_option linter.unusedVariables false
def cutL (l : List S29) (z : S29) : List S29 := (l.map (fun r => me r z)).filter (fun r => decide (Pos r))
theorem cutL_len (l : List S29) (z : S29) : (cutL l z).length ≤ l.length := by
  unfold cutL
  have := List.length_filter_le (fun r => decide (Pos r)) (l.map (fun r => me r z))
  simpa using this
theorem cut_loop (z : S29) (l : List S29) (hl : l.length ≤ 1000) (k : Nat) (xs : List S29) : ∀ (pre out : List S29), l = pre ++ xs → out.length ≤ pre.length →
    window_Cut.l0 (k + 3 + xs.length) out l (l.length : Int) (pre.length : Int) z.f0 z.f1 z.f2 z.f3 = some (out ++ cutL xs z) := by
  induction xs with
  | nil =>
    intro pre out h1 h2
    have : l.length = pre.length := by rw [h1]; simp
    show window_Cut.l0 ((k + 2) + 1) _ _ _ _ _ _ _ _ = _
    simp only [window_Cut.l0]
    rw [if_neg (by omega)]
    simp [cutL]
  | cons r xs ih =>
    intro pre out h1 h2
    have hlen := congrArg List.length h1
    simp at hlen
    have r1 : rd_T29 l (pre.length : Int) = r := by rw [h1]; exact rd29_at pre r xs
    show window_Cut.l0 ((k + 3 + xs.length) + 1) _ _ _ _ _ _ _ _ = _
    simp only [window_Cut.l0]
    rw [if_pos (by omega), if_pos (by omega), if_pos (by omega), r1, show k + 3 + xs.length = (k + 2 + xs.length) + 1 by omega, meet_eq, Option.bind_some]
    dsimp only
    rw [show (k + 2 + xs.length) + 1 = (k + 1 + xs.length) + 2 by omega, full_one (k + 1 + xs.length) (me r z), Option.bind_some, wrap_inc _ (by omega)]
    have hf : ([me r z].filter (fun r => decide (Pos r))).length ≤ 1 := List.length_filter_le _ _
    rw [if_pos (by omega)]
    have := ih (pre ++ [r]) (out ++ [me r z].filter (fun r => decide (Pos r))) (by rw [h1]; simp) (by simp; omega)
    rw [show ((pre.length + 1 : Nat) : Int) = ((pre ++ [r]).length : Int) by simp, show (k + 1 + xs.length) + 2 = k + 3 + xs.length by omega, this]
    congr 1
    rw [List.append_assoc]
    congr 1
    unfold cutL
    rw [← List.filter_append]
    rfl
theorem ar_pos (r : S29) : ar r > 0 ↔ Pos r := by
  unfold ar
  by_cases h : Pos r
  · rw [if_pos h]
    have h' := h
    unfold Pos at h'
    exact ⟨fun _ => h, fun _ => Int.mul_pos h'.2.2.1 h'.2.2.2.1⟩
  · rw [if_neg h]
    exact ⟨fun q => absurd q (by decide), fun q => absurd q h⟩
section
variable {K n d b x y w h : Int}
theorem plain_len : (plain n x y w h).length ≤ 4 := List.length_filter_le _ _
theorem plain_fine (hw : Wn n x y w h) : ∀ r ∈ plain n x y w h, Fine r := fun r hr => fine_of_pos (by simpa using (List.mem_filter.mp hr).2)
theorem cut_eq (hk : OkT K n) (hp : PathOk K d b) (hw : Wn n x y w h) (k : Nat) : window_Cut.f (k + 8) K x y w h d b = some (cutL (plain n x y w h) (zone n d b)) := by
  unfold window_Cut.f
  rw [of_eq hk hp, Option.bind_some]
  rw [show k + 8 = (k + 6) + 2 from rfl, plain_eq hk (k + 6) hw, Option.bind_some]
  dsimp only
  rw [if_pos rfl]
  show window_Cut.j0 ((k + 7) + 1) _ _ _ _ _ _ = _
  simp only [window_Cut.j0]
  rw [if_neg (by decide)]
  have hl := plain_len (n := n) (x := x) (y := y) (w := w) (h := h)
  have := cut_loop (zone n d b) (plain n x y w h) (by omega) (k + 4 - (plain n x y w h).length) (plain n x y w h) [] [] rfl (Nat.le_refl _)
  rw [show k + 4 - (plain n x y w h).length + 3 + (plain n x y w h).length = k + 7 by omega] at this
  simpa using this
theorem cut_no (hh : ∀ n, OkT K n → PathOk K d b → ¬ Wn n x y w h) (k : Nat) : window_Cut.f (k + 2) K x y w h d b = some [] := by
  unfold window_Cut.f
  by_cases hp : PathOk K d b
  · have hk := okT_of hp.1
    rw [of_eq hk hp, Option.bind_some, plain_no _ (fun n hn => hh n hn hp), Option.bind_some]
    dsimp only
    rw [if_pos rfl]
    show window_Cut.j0 ((k + 1) + 1) _ _ _ _ _ _ = _
    simp only [window_Cut.j0]
    rw [if_pos (by decide)]
  · rw [of_no hp, Option.bind_some]
    by_cases hw : ∃ n, OkT K n ∧ Wn n x y w h
    · obtain ⟨n, hk, hw⟩ := hw
      rw [plain_eq hk _ hw, Option.bind_some]
      dsimp only
      rw [if_neg (by decide)]
      show window_Cut.j0 ((k + 1) + 1) _ _ _ _ _ _ = _
      simp only [window_Cut.j0]
      rw [if_pos trivial]
    · rw [plain_no _ (fun n hn hw2 => hw ⟨n, hn, hw2⟩), Option.bind_some]
      dsimp only
      rw [if_neg (by decide)]
      show window_Cut.j0 ((k + 1) + 1) _ _ _ _ _ _ = _
      simp only [window_Cut.j0]
      rw [if_pos trivial]
end
theorem covers_loop (k : Nat) (l : List S29) (hl : l.length ≤ 4) (a : Int) (ha : 0 ≤ a ∧ a ≤ 1152921504606846976) (xs : List S29) : ∀ (pre : List S29) (acc : Int), l = pre ++ xs → acc = a - sm pre →
    window_Covers.l0 (k + 1 + xs.length) acc l (l.length : Int) (pre.length : Int) = some (a - sm l == 0) := by
  induction xs with
  | nil =>
    intro pre acc h1 h2
    have : l.length = pre.length := by rw [h1]; simp
    simp only [window_Covers.l0, List.length_nil, Nat.add_zero]
    rw [if_neg (by omega), h2]
    rw [List.append_nil] at h1
    rw [h1]
  | cons r xs ih =>
    intro pre acc h1 h2
    have hlen := congrArg List.length h1
    simp at hlen
    have r1 : rd_T29 l (pre.length : Int) = r := by rw [h1]; exact rd29_at pre r xs
    show window_Covers.l0 ((k + 1 + xs.length) + 1) _ _ _ _ = _
    simp only [window_Covers.l0]
    have b1 := sm_bd pre
    have b2 := ar_bd r
    rw [if_pos (by omega), if_pos (by omega), if_pos (by omega), r1, area_eq, Option.bind_some, wrap_inc _ (by omega), wrap64_small (by omega) (by omega)]
    have := ih (pre ++ [r]) (acc - ar r) (by rw [h1]; simp) (by rw [sm_append, h2]; simp only [sm]; omega)
    simpa using this
theorem covers_yes {K n d b x y w h : Int} (hk : OkT K n) (hp : PathOk K d b) (hw : Wn n x y w h) (k : Nat) :
    window_Covers.f (k + 12) K x y w h d b = some (ar (zone n d b) - sm (cutL (plain n x y w h) (zone n d b)) == 0) := by
  unfold window_Covers.f
  rw [of_eq hk hp, Option.bind_some]
  dsimp only
  rw [if_pos rfl, area_eq, Option.bind_some, show k + 12 = (k + 4) + 8 from rfl, cut_eq hk hp hw, Option.bind_some]
  have h1 := cutL_len (plain n x y w h) (zone n d b)
  have h2 := plain_len (n := n) (x := x) (y := y) (w := w) (h := h)
  have := covers_loop (k + 11 - (cutL (plain n x y w h) (zone n d b)).length) (cutL (plain n x y w h) (zone n d b)) (by omega) (ar (zone n d b)) (ar_bd _) (cutL (plain n x y w h) (zone n d b)) [] (ar (zone n d b)) rfl (by simp [sm])
  rw [show k + 11 - (cutL (plain n x y w h) (zone n d b)).length + 1 + (cutL (plain n x y w h) (zone n d b)).length = (k + 4) + 8 by omega] at this
  exact this
theorem covers_no {K d b x y w h : Int} (hh : ∀ n, OkT K n → PathOk K d b → ¬ Wn n x y w h) (k : Nat) : window_Covers.f (k + 12) K x y w h d b = some false := by
  unfold window_Covers.f
  by_cases hp : PathOk K d b
  · have hk := okT_of hp.1
    rw [of_eq hk hp, Option.bind_some]
    dsimp only
    rw [if_pos rfl, area_eq, Option.bind_some, show k + 12 = (k + 10) + 2 from rfl, cut_no hh, Option.bind_some]
    have hz := (ar_pos _).mpr (zone_ok hk hp).1
    show window_Covers.l0 ((k + 11) + 1) _ _ _ _ = _
    simp only [window_Covers.l0, List.length_nil]
    rw [if_neg (by decide)]
    congr 1
    exact beq_false_of_ne (by omega)
  · rw [of_no hp, Option.bind_some]
    dsimp only
    rw [if_neg (by decide)]
end Go.Proofs.Ytnkfbkbllkdnoaa.PW
