/- What a zone has of a window, by the reference. -/
import Derived.Test.YtnkfbkbllkdnoaaWindowCut
import Derived.Test.YtnkfbkbllkdnoaaWindowRefPath
import Derived.Test.YtnkfbkbllkdnoaaPWx11
namespace Go.Proofs.Ytnkfbkbllkdnoaa.PW
open Go.RowKit Go.Proofs.YtnkfbkbllkdnoaaW.PrintWords Go.Proofs.YtnkfbkbllkdnoaaW.PrintLast Go.Proofs.YtnkfbkbllkdnoaaW.PrintMore
set_option linter.unusedVariables false
theorem rcut_loop (z : S29) (hz : Fine z) (l : List S29) (hl : l.length ≤ 1000) (hf : ∀ r ∈ l, Fine r) (k : Nat) (xs : List S29) : ∀ (pre : List S29) (out : List S23), l = pre ++ xs → out.length ≤ pre.length →
    gleberef04_Cut.l0 (k + 2 + xs.length) (l.map toR) out (pre.length : Int) z.f0 z.f1 z.f2 z.f3 = some (out ++ (cutL xs z).map toR) := by
  induction xs with
  | nil =>
    intro pre out h1 h2
    have : l.length = pre.length := by rw [h1]; simp
    show gleberef04_Cut.l0 ((k + 1) + 1) _ _ _ _ _ _ _ = _
    simp only [gleberef04_Cut.l0]
    rw [if_neg (by rw [List.length_map]; omega)]
    simp [cutL]
  | cons r xs ih =>
    intro pre out h1 h2
    have hlen := congrArg List.length h1
    simp at hlen
    have r1 : rd_T23 (l.map toR) (pre.length : Int) = toR r := by rw [h1]; exact rd23_map pre r xs
    show gleberef04_Cut.l0 ((k + 2 + xs.length) + 1) _ _ _ _ _ _ _ = _
    simp only [gleberef04_Cut.l0]
    have hm := rmeet_eq (k + 1 + xs.length) r z (hf r (by rw [h1]; simp)) hz
    rw [if_pos (by rw [List.length_map]; omega), if_pos (by omega), r1]
    dsimp only [toR]
    rw [show k + 2 + xs.length = (k + 1 + xs.length) + 1 by omega, hm, Option.bind_some]
    dsimp only
    rw [rarea_eq (me r z), Option.bind_some, wrap_inc _ (by omega)]
    have hn : ((pre.length + 1 : Nat) : Int) = ((pre ++ [r]).length : Int) := by simp
    rw [hn, show (k + 1 + xs.length) + 1 = k + 2 + xs.length by omega]
    have hc : cutL (r :: xs) z = [me r z].filter (fun r => decide (Pos r)) ++ cutL xs z := by
      unfold cutL
      rw [← List.filter_append]
      rfl
    by_cases hp : Pos (me r z)
    · rw [if_pos ((ar_pos _).mpr hp), if_pos (by omega), ih (pre ++ [r]) _ (by rw [h1]; simp) (by simp; omega), hc, List.filter_cons_of_pos (by simpa using hp)]
      simp [toR]
    · rw [if_neg (fun q => hp ((ar_pos _).mp q)), ih (pre ++ [r]) _ (by rw [h1]; simp) (by simp; omega), hc, List.filter_cons_of_neg (by simpa using hp)]
      simp
variable {K n d b x y w h : Int}
theorem rcut_eq (hk : OkT K n) (hp : PathOk K d b) (hw : Wn n x y w h) (k : Nat) : gleberef04_Cut.f (k + 40) K x y w h d b = some ((cutL (plain n x y w h) (zone n d b)).map toR) := by
  unfold gleberef04_Cut.f
  rw [show k + 40 = (k + 23) + 17 from rfl, rplain_eq hk (k + 23) hw, Option.bind_some, show k + 23 + 17 = (k + 7) + 33 from rfl, rof_eq hk hp, Option.bind_some]
  dsimp only
  rw [if_pos rfl]
  show gleberef04_Cut.j0 ((k + 39) + 1) _ _ _ _ _ _ = _
  simp only [gleberef04_Cut.j0]
  rw [if_neg (by decide)]
  have hl := plain_len (n := n) (x := x) (y := y) (w := w) (h := h)
  have hz := (zone_ok hk hp).1
  have := rcut_loop (zone n d b) (fine_of_pos hz) (plain n x y w h) (by omega) (plain_fine hw) (k + 37 - (plain n x y w h).length) (plain n x y w h) [] [] rfl (Nat.le_refl _)
  rw [show k + 37 - (plain n x y w h).length + 2 + (plain n x y w h).length = k + 39 by omega] at this
  simpa using this
theorem rcut_no (hh : ∀ n, OkT K n → PathOk K d b → ¬ Wn n x y w h) (k : Nat) : gleberef04_Cut.f (k + 40) K x y w h d b = some [] := by
  unfold gleberef04_Cut.f
  rw [show k + 40 = (k + 23) + 17 from rfl]
  by_cases hp : PathOk K d b
  · have hk := okT_of hp.1
    rw [rplain_no _ (fun n hn => hh n hn hp), Option.bind_some, show k + 23 + 17 = (k + 7) + 33 from rfl, rof_eq hk hp, Option.bind_some]
    dsimp only
    rw [if_neg (by decide)]
    show gleberef04_Cut.j0 ((k + 39) + 1) _ _ _ _ _ _ = _
    simp only [gleberef04_Cut.j0]
    rw [if_pos trivial]
  · by_cases hw : ∃ n, OkT K n ∧ Wn n x y w h
    · obtain ⟨n, hk, hw⟩ := hw
      rw [rplain_eq hk _ hw, Option.bind_some, rof_no hp, Option.bind_some]
      dsimp only
      rw [if_pos rfl]
      show gleberef04_Cut.j0 ((k + 39) + 1) _ _ _ _ _ _ = _
      simp only [gleberef04_Cut.j0]
      rw [if_pos (by decide)]
    · rw [rplain_no _ (fun n hn hw2 => hw ⟨n, hn, hw2⟩), Option.bind_some, rof_no hp, Option.bind_some]
      dsimp only
      rw [if_neg (by decide)]
      show gleberef04_Cut.j0 ((k + 39) + 1) _ _ _ _ _ _ = _
      simp only [gleberef04_Cut.j0]
      rw [if_pos trivial]
end Go.Proofs.Ytnkfbkbllkdnoaa.PW
