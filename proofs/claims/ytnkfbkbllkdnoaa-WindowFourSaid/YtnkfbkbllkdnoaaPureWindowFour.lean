/- WindowFour: a window is at most four plain rectangles that have no cell together and whose areas are its width times its height; a cell is in one of them just if it is so many steps from its corner. -/
import Derived.Test.YtnkfbkbllkdnoaaWindowOn
import Derived.Test.YtnkfbkbllkdnoaaPWx15
import Derived.Test.YtnkfbkbllkdnoaaStWindowFour
namespace Go.Proofs.Ytnkfbkbllkdnoaa.PW
open Go.RowKit Go.Proofs.YtnkfbkbllkdnoaaW.PrintWords Go.Proofs.YtnkfbkbllkdnoaaW.PrintLast Go.Proofs.YtnkfbkbllkdnoaaW.PrintMore
set_option linter.unusedVariables false
/-- No cell together. -/
def Off (a b : S29) : Prop := ar (me b a) = 0
theorem ar_zero : ar ⟨0, 0, 0, 0⟩ = 0 := rfl
theorem off_of {a b : S29} (h : ¬ (mx b.f0 a.f0 < mn (b.f0 + b.f2) (a.f0 + a.f2) ∧ mx b.f1 a.f1 < mn (b.f1 + b.f3) (a.f1 + a.f3))) : Off a b := by
  unfold Off me
  rw [if_neg (fun q => h q.2.2)]
  rfl
theorem gap {p1 q1 p2 q2 : Int} (h : q1 ≤ p2 ∨ q2 ≤ p1) : ¬ mx p1 p2 < mn q1 q2 := by
  unfold mx mn
  (repeat' split) <;> omega
theorem parts_off {n x y w h : Int} (hw : Wn n x y w h) : (parts n x y w h).Pairwise Off := by
  obtain ⟨h1, h2, h3, h4⟩ := hw
  obtain ⟨a, ha, ha'⟩ := cut_cases h1 h3
  obtain ⟨b, hb, hb'⟩ := cut_cases h2 h4
  unfold parts
  rw [ha, hb]
  have gx : ¬ (mx 0 x < mn (0 + (w - a)) (x + a)) := gap (by omega)
  have gy : ¬ (mx 0 y < mn (0 + (h - b)) (y + b)) := gap (by omega)
  have gy' : ¬ (mx y 0 < mn (y + b) (0 + (h - b))) := gap (by omega)
  refine .cons ?_ (.cons ?_ (.cons ?_ (.cons ?_ .nil)))
  · intro r hr
    simp only [List.mem_cons, List.not_mem_nil, or_false] at hr
    rcases hr with rfl | rfl | rfl
    · exact off_of (fun q => gy q.2)
    · exact off_of (fun q => gx q.1)
    · exact off_of (fun q => gx q.1)
  · intro r hr
    simp only [List.mem_cons, List.not_mem_nil, or_false] at hr
    rcases hr with rfl | rfl
    · exact off_of (fun q => gx q.1)
    · exact off_of (fun q => gx q.1)
  · intro r hr
    simp only [List.mem_cons, List.not_mem_nil, or_false] at hr
    rcases hr with rfl
    exact off_of (fun q => gy q.2)
  · intro r hr
    simp at hr
theorem plain_count {n x y w h u v : Int} (hn : 2 ≤ n ∧ n ≤ 65536) (hw : Wn n x y w h) (hu : 0 ≤ u ∧ u < n) (hv : 0 ≤ v ∧ v < n) :
    cn u v (plain n x y w h) = if (u - x) % n < w ∧ (v - y) % n < h then 1 else 0 := by
  obtain ⟨h1, h2, h3, h4⟩ := hw
  unfold plain
  rw [cn_filter]
  obtain ⟨a, ha, ha'⟩ := cut_cases h1 h3
  obtain ⟨b, hb, hb'⟩ := cut_cases h2 h4
  unfold parts
  rw [ha, hb]
  simp only [cn]
  have e1 : (u - x) % n < w ↔ (x ≤ u ∧ u < x + a) ∨ (0 ≤ u ∧ u < 0 + (w - a)) := by
    rcases mod_diff (n := n) (d := u - x) hn.1 (by omega) (by omega) with ⟨q1, q2⟩ | ⟨q1, q2⟩ <;> rw [q2] <;> omega
  have e2 : (v - y) % n < h ↔ (y ≤ v ∧ v < y + b) ∨ (0 ≤ v ∧ v < 0 + (h - b)) := by
    rcases mod_diff (n := n) (d := v - y) hn.1 (by omega) (by omega) with ⟨q1, q2⟩ | ⟨q1, q2⟩ <;> rw [q2] <;> omega
  have p1 : Hs ⟨x, y, a, b⟩ u v ↔ (x ≤ u ∧ u < x + a) ∧ (y ≤ v ∧ v < y + b) := by unfold Hs Pos; dsimp only; omega
  have p2 : Hs ⟨x, 0, a, h - b⟩ u v ↔ (x ≤ u ∧ u < x + a) ∧ (0 ≤ v ∧ v < 0 + (h - b)) := by unfold Hs Pos; dsimp only; omega
  have p3 : Hs ⟨0, y, w - a, b⟩ u v ↔ (0 ≤ u ∧ u < 0 + (w - a)) ∧ (y ≤ v ∧ v < y + b) := by unfold Hs Pos; dsimp only; omega
  have p4 : Hs ⟨0, 0, w - a, h - b⟩ u v ↔ (0 ≤ u ∧ u < 0 + (w - a)) ∧ (0 ≤ v ∧ v < 0 + (h - b)) := by unfold Hs Pos; dsimp only; omega
  simp only [p1, p2, p3, p4, e1, e2]
  have d1 : ¬ ((x ≤ u ∧ u < x + a) ∧ (0 ≤ u ∧ u < 0 + (w - a))) := by omega
  have d2 : ¬ ((y ≤ v ∧ v < y + b) ∧ (0 ≤ v ∧ v < 0 + (h - b))) := by omega
  clear p1 p2 p3 p4 e1 e2 d1 d2
  (repeat' split) <;> omega
theorem l1_eq (K : Nat) (l : List S29) (e c t x y w h d1 d2 : Int) (xs : List S29) (r : S29) (hl10 : l.length ≤ 10) (q : List S29) : ∀ (p : List S29), l = p ++ q ++ r :: xs → (∀ s ∈ q, Off s r) →
    glebelaw04_WindowFour.l1 (K + 2 + q.length) l e c ((p ++ q).length : Int) (p.length : Int) t x y w h d1 d2 = glebelaw04_WindowFour.l0 (K + 1) l e c (((p ++ q).length + 1 : Nat) : Int) t x y w h d1 d2 := by
  induction q with
  | nil =>
    intro p hl hq
    have := congrArg List.length hl
    simp at this
    show glebelaw04_WindowFour.l1 ((K + 1) + 1) _ _ _ _ _ _ _ _ _ _ _ _ = _
    simp only [glebelaw04_WindowFour.l1, List.append_nil, Int.lt_irrefl, if_false]
    rw [wrap_inc _ (by omega)]
  | cons s q ih =>
    intro p hl hq
    have hlen := congrArg List.length hl
    simp at hlen
    show glebelaw04_WindowFour.l1 ((K + 2 + q.length) + 1) _ _ _ _ _ _ _ _ _ _ _ _ = _
    simp only [glebelaw04_WindowFour.l1]
    rw [if_pos (by simp; omega), if_pos (by omega), if_pos (by simp; omega), if_pos (by omega), if_pos (by omega)]
    have r1 : rd_T29 l ((p ++ s :: q).length : Int) = r := by rw [hl]; exact rd29_at (p ++ s :: q) r xs
    have r2 : rd_T29 l (p.length : Int) = s := by rw [hl]; have := rd29_at p s (q ++ r :: xs); simpa using this
    rw [r1, r2, show K + 2 + q.length = (K + 1 + q.length) + 1 by omega, meet_eq]
    simp only [Option.bind_some]
    rw [area_eq]
    simp only [Option.bind_some]
    rw [if_pos (show ar (me r s) = 0 from hq s (by simp)), wrap_inc _ (by omega)]
    have e1 : ((p.length + 1 : Nat) : Int) = ((p ++ [s]).length : Int) := by simp
    have e2 : (p ++ s :: q) = (p ++ [s]) ++ q := by simp
    rw [e1, e2, show (K + 1 + q.length) + 1 = K + 2 + q.length by omega]
    exact ih (p ++ [s]) (by rw [hl]; simp) (fun z hz => hq z (by simp [hz]))
theorem l0_eq {K n : Int} (hk : OkT K n) (l : List S29) (e c x y w h d1 d2 : Int) (hl10 : l.length ≤ 9) (hoff : l.Pairwise Off) (hrt : ∀ r ∈ l, Rt n r) (k0 : Nat)
    (hend : ∀ k, k0 ≤ k → glebelaw04_WindowFour.j1 k l e c (l.length : Int) false K x y w h d1 d2 = some true) (xs : List S29) : ∀ (p : List S29), l = p ++ xs →
    ∃ k1, ∀ k, k1 ≤ k → glebelaw04_WindowFour.l0 k l e c (p.length : Int) K x y w h d1 d2 = some true := by
  induction xs with
  | nil =>
    intro p hl
    refine ⟨k0 + 1, fun k hk1 => ?_⟩
    obtain ⟨k', rfl⟩ : ∃ k', k = k' + 1 := ⟨k - 1, by omega⟩
    rw [List.append_nil] at hl
    subst hl
    simp only [glebelaw04_WindowFour.l0, Int.lt_irrefl, if_false]
    exact hend k' (by omega)
  | cons r xs ih =>
    intro p hl
    obtain ⟨k1, h1⟩ := ih (p ++ [r]) (by rw [hl]; simp)
    refine ⟨k1 + 5 + p.length, fun k hk1 => ?_⟩
    obtain ⟨k', rfl⟩ : ∃ k', k = (k' + 2 + p.length) + 1 + 1 := ⟨k - 4 - p.length, by omega⟩
    have hlen := congrArg List.length hl
    simp at hlen
    simp only [glebelaw04_WindowFour.l0]
    rw [if_pos (by omega), decide_eq_true (by omega)]
    simp only [glebelaw04_WindowFour.j1, if_true]
    rw [if_pos (by omega), if_pos (by omega)]
    have r1 : rd_T29 l (p.length : Int) = r := by rw [hl]; exact rd29_at p r xs
    rw [r1, right_eq hk]
    have hR : Rt n r := hrt r (by rw [hl]; simp)
    simp only [Option.bind_some]
    unfold Rt at hR
    rw [decide_eq_true hR, if_pos rfl]
    have hq : ∀ s ∈ p, Off s r := by
      rw [hl] at hoff
      exact fun s hs => (List.pairwise_append.mp hoff).2.2 s hs r (by simp)
    have := l1_eq k' l e c K x y w h d1 d2 xs r (by omega) p [] (by simpa using hl) hq
    simp only [List.nil_append, List.length_nil] at this
    rw [show ((0 : Nat) : Int) = 0 from rfl] at this
    rw [this]
    have := h1 (k' + 1) (by omega)
    simpa using this
theorem windowFour_pure : WindowFour_Pure := by
  intro a0 x y w h u v b0 b1 b2 b3 b4 b5 b6
  obtain ⟨n, hk⟩ := on16 a0
  unfold glebelaw04_WindowFour.f
  generalize wrap64 (1 + Int.tmod (wrap64 (Int.tmod a0 16 + 16)) 16) = K at *
  have hb := okT_bd hk
  obtain ⟨W, H, hS, hW⟩ := some_eq hk x y w h
  rw [hS]
  simp only [Option.bind_some, wrap_eq hk]
  have hx := mod_in (n := n) (by omega) x
  have hy := mod_in (n := n) (by omega) y
  have hu := mod_in (n := n) (by omega) u
  have hv := mod_in (n := n) (by omega) v
  generalize x % n = x' at *
  generalize y % n = y' at *
  generalize u % n = u' at *
  generalize v % n = v' at *
  rw [wrap64_small (x := u' - x') (by omega) (by omega), wrap64_small (x := v' - y') (by omega) (by omega)]
  have hlen : (plain n x' y' W H).length ≤ 4 := List.length_filter_le _ _
  have hoff : (plain n x' y' W H).Pairwise Off := (parts_off hW).filter _
  have hrt : ∀ r ∈ plain n x' y' W H, Rt n r := fun r hr => parts_right hW r (List.mem_filter.mp hr).1
  have hsum := plain_sum (by omega) hW
  have hcn := plain_count (u := u') (v := v') (by omega) hW hu hv
  have hp : ∀ k, window_Plain.f (k + 2) K x' y' W H = some (plain n x' y' W H, 0) := fun k => plain_eq hk k hW
  generalize plain n x' y' W H = l at *
  have hm := mul_bd (a := W) (b := H) (m := 65536) (n := 65536) (by have := hW.2.2.1; omega) (by have := hW.2.2.2; omega) (by have := hW.2.2.1; omega) (by have := hW.2.2.2; omega)
  have hend : ∀ k, 20 ≤ k → glebelaw04_WindowFour.j1 k l 0 (cn u' v' l) (l.length : Int) false K x' y' W H ((u' - x') % n) ((v' - y') % n) = some true := by
    intro k hk2
    obtain ⟨k', rfl⟩ : ∃ k', k = (k' + 1 + l.length) + 1 := ⟨k - 2 - l.length, by omega⟩
    simp only [glebelaw04_WindowFour.j1]
    rw [if_neg (by decide)]
    simp only [glebelaw04_num.f, Option.bind_some]
    rw [if_pos trivial, if_pos (by omega), sum_eq _ _ (by omega), Option.bind_some, hsum, wrap64_small (by omega) (by omega), if_pos rfl]
    rw [show k' + 1 + l.length = (k' + l.length - 2) + 3 by omega, knows_eq]
    simp only [Option.bind_some]
    rw [hcn]
    by_cases c1 : (u' - x') % n < W <;> by_cases c2 : (v' - y') % n < H <;> simp [c1, c2]
  obtain ⟨k1, h1⟩ := l0_eq hk l 0 (cn u' v' l) x' y' W H ((u' - x') % n) ((v' - y') % n) (by omega) hoff hrt 20 hend l [] rfl
  refine ⟨k1 + 20, ?_⟩
  rw [show k1 + 20 = (k1 + 18) + 2 from rfl, hp]
  simp only [Option.bind_some]
  rw [show k1 + 18 + 2 = (k1 + 18 - 2 * l.length) + 2 + 2 * l.length by omega, in_eq_ _ _ _ _ (by omega)]
  simp only [Option.bind_some]
  exact h1 _ (by omega)
end Go.Proofs.Ytnkfbkbllkdnoaa.PW
namespace Go.Proofs.Ytnkfbkbllkdnoaa.Pure
theorem WindowFour : Go.Proofs.Ytnkfbkbllkdnoaa.PW.WindowFour_Pure := Go.Proofs.Ytnkfbkbllkdnoaa.PW.windowFour_pure
end Go.Proofs.Ytnkfbkbllkdnoaa.Pure
