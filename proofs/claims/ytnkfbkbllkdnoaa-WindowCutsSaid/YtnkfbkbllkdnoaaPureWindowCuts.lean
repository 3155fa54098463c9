/- WindowCuts: any window in plain rectangles, and what any zone has of it, as the reference tells it. -/
import Derived.Test.YtnkfbkbllkdnoaaWindowRefCut
import Derived.Test.YtnkfbkbllkdnoaaPWx11
import Derived.Test.YtnkfbkbllkdnoaaPWx1
import Derived.Test.YtnkfbkbllkdnoaaPWx12
import Derived.Test.YtnkfbkbllkdnoaaStWindowCuts
namespace Go.Proofs.Ytnkfbkbllkdnoaa.PW
open Go.RowKit Go.Proofs.YtnkfbkbllkdnoaaW.PrintWords Go.Proofs.YtnkfbkbllkdnoaaW.PrintLast Go.Proofs.YtnkfbkbllkdnoaaW.PrintMore
set_option linter.unusedVariables false
theorem rcovers_loop (K e x y w h : Int) (z : S29) (k : Nat) (v : Bool) (l : List S29) (hl : l.length ≤ 4) (hv : (if e = 0 then (gleberef04_Fine.f (k + 20) K x y w h).bind fun t => (if t = true then (some (sm l == ar z)) else (some false)) else (some false)) = some v)
    (hk : ∀ j, gleberef04_Fine.f (k + 20 + j) K x y w h = gleberef04_Fine.f (k + 20) K x y w h) (xs : List S29) : ∀ (pre : List S29) (acc : Int), l = pre ++ xs → acc = sm pre →
    gleberef04_Covers.l0 (k + 21 + xs.length) K e (l.map toR) acc (pre.length : Int) x y w h z.f0 z.f1 z.f2 z.f3 = some v := by
  induction xs with
  | nil =>
    intro pre acc h1 h2
    have : l.length = pre.length := by rw [h1]; simp
    show gleberef04_Covers.l0 ((k + 20) + 1) _ _ _ _ _ _ _ _ _ _ _ _ _ = _
    simp only [gleberef04_Covers.l0]
    rw [if_neg (by rw [List.length_map]; omega), rarea_eq z]
    rw [List.append_nil] at h1
    rw [h2, ← h1]
    exact hv
  | cons r xs ih =>
    intro pre acc h1 h2
    have hlen := congrArg List.length h1
    simp at hlen
    have r1 : rd_T23 (l.map toR) (pre.length : Int) = toR r := by rw [h1]; exact rd23_map pre r xs
    show gleberef04_Covers.l0 ((k + 21 + xs.length) + 1) _ _ _ _ _ _ _ _ _ _ _ _ _ = _
    simp only [gleberef04_Covers.l0]
    have b1 := sm_bd pre
    have b2 := ar_bd r
    rw [if_pos (by rw [List.length_map]; omega), if_pos (by omega), r1]
    dsimp only [toR]
    rw [rarea_eq r, Option.bind_some, wrap_inc _ (by omega), wrap64_small (by omega) (by omega)]
    have := ih (pre ++ [r]) (acc + ar r) (by rw [h1]; simp) (by rw [sm_append, h2]; simp [sm])
    simpa using this
theorem rcovers_yes {K n d b x y w h : Int} (hk : OkT K n) (hp : PathOk K d b) (hw : Wn n x y w h) (k : Nat) :
    gleberef04_Covers.f (k + 60) K x y w h d b = some (ar (zone n d b) - sm (cutL (plain n x y w h) (zone n d b)) == 0) := by
  unfold gleberef04_Covers.f
  rw [show k + 60 = (k + 27) + 33 from rfl, rof_eq hk hp, Option.bind_some, show k + 27 + 33 = (k + 20) + 40 from rfl, rcut_eq hk hp hw, Option.bind_some]
  dsimp only
  have h1 := cutL_len (plain n x y w h) (zone n d b)
  have h2 := plain_len (n := n) (x := x) (y := y) (w := w) (h := h)
  generalize cutL (plain n x y w h) (zone n d b) = l at *
  have hf : ∀ j, gleberef04_Fine.f (k + 39 - l.length + j) K x y w h = some true := fun j => by
    rw [show k + 39 - l.length + j = (k + 22 - l.length + j) + 17 by omega, rfine_eq hk, decide_eq_true hw]
  have := rcovers_loop K 0 x y w h (zone n d b) (k + 19 + 20 - l.length - 20) (ar (zone n d b) - sm l == 0) l (by omega) (by
    rw [if_pos rfl, show k + 19 + 20 - l.length - 20 + 20 = k + 39 - l.length + 0 by omega, hf 0, Option.bind_some, if_pos rfl]
    congr 1
    by_cases hq : sm l = ar (zone n d b)
    · rw [hq]
      simp
    · rw [beq_false_of_ne hq, beq_false_of_ne (by omega)]) (fun j => by rw [show k + 19 + 20 - l.length - 20 + 20 + j = k + 39 - l.length + j by omega, show k + 19 + 20 - l.length - 20 + 20 = k + 39 - l.length + 0 by omega, hf j, hf 0]) l [] 0 rfl rfl
  rw [show k + 19 + 20 - l.length - 20 + 21 + l.length = (k + 20) + 20 by omega] at this
  have hm := gleberef04_Covers.mono_l
  have up : ∀ j, gleberef04_Covers.l0 ((k + 20) + 20 + j) K 0 (l.map toR) 0 0 x y w h (zone n d b).f0 (zone n d b).f1 (zone n d b).f2 (zone n d b).f3 = some (ar (zone n d b) - sm l == 0) := fun j => by
    induction j with
    | zero => exact this
    | succ j ih => exact hm _ _ _ _ _ _ _ _ _ _ _ _ _ _ _ ih
  exact up 20
theorem rcovers_no {K d b x y w h : Int} (hh : ∀ n, OkT K n → PathOk K d b → ¬ Wn n x y w h) (k : Nat) : gleberef04_Covers.f (k + 60) K x y w h d b = some false := by
  unfold gleberef04_Covers.f
  by_cases hp : PathOk K d b
  · have hk := okT_of hp.1
    rw [show k + 60 = (k + 27) + 33 from rfl, rof_eq hk hp, Option.bind_some, show k + 27 + 33 = (k + 20) + 40 from rfl, rcut_no hh, Option.bind_some]
    show gleberef04_Covers.l0 ((k + 59) + 1) _ _ [] _ _ _ _ _ _ _ _ _ _ = _
    obtain ⟨j, hj⟩ : ∃ j, j = k + 59 := ⟨_, rfl⟩
    rw [← hj]
    simp only [gleberef04_Covers.l0, List.length_nil]
    rw [if_neg (by decide), if_pos trivial, hj, show k + 59 = (k + 42) + 17 from rfl, rfine_eq hk, decide_eq_false (hh _ hk hp)]
    rfl
  · rw [rof_no hp, Option.bind_some, show k + 60 = (k + 20) + 40 from rfl, rcut_no hh, Option.bind_some]
    show gleberef04_Covers.l0 ((k + 59) + 1) _ _ [] _ _ _ _ _ _ _ _ _ _ = _
    obtain ⟨j, hj⟩ : ∃ j, j = k + 59 := ⟨_, rfl⟩
    rw [← hj]
    simp only [gleberef04_Covers.l0, List.length_nil]
    rw [if_neg (by decide), if_neg (by decide)]
theorem rrect_eq {K n : Int} (hk : OkT K n) (k : Nat) (r : S29) : gleberef04_Right.f (k + 17) K r.f0 r.f1 r.f2 r.f3 = some (decide (Rt n r)) := by
  have hb := okT_bd hk
  unfold gleberef04_Right.f Rt
  rw [rside_eq hk, Option.bind_some, if_pos (by omega)]
  by_cases h1 : r.f0 ≥ 0
  · rw [if_pos h1]
    by_cases h2 : r.f0 ≤ n
    · rw [if_pos h2, wrap64_small (x := n - r.f0) (by omega) (by omega)]
      by_cases h3 : r.f1 ≥ 0
      · rw [if_pos h3]
        by_cases h4 : r.f1 ≤ n
        · rw [if_pos h4, wrap64_small (x := n - r.f1) (by omega) (by omega)]
          by_cases h5 : r.f2 ≥ 0
          · rw [if_pos h5]
            by_cases h6 : r.f2 ≤ n - r.f0
            · rw [if_pos h6]
              by_cases h7 : r.f3 ≥ 0
              · rw [if_pos h7]
                congr 1
                exact decide_eq_decide.mpr (by omega)
              · rw [if_neg h7]
                congr 1
                exact (decide_eq_false (by omega)).symm
            · rw [if_neg h6]
              congr 1
              exact (decide_eq_false (by omega)).symm
          · rw [if_neg h5]
            congr 1
            exact (decide_eq_false (by omega)).symm
        · rw [if_neg h4]
          congr 1
          exact (decide_eq_false (by omega)).symm
      · rw [if_neg h3]
        congr 1
        exact (decide_eq_false (by omega)).symm
    · rw [if_neg h2]
      congr 1
      exact (decide_eq_false (by omega)).symm
  · rw [if_neg h1]
    congr 1
    exact (decide_eq_false (by omega)).symm
theorem rhas_eq {K n : Int} (hk : OkT K n) (k : Nat) (x y : Int) : gleberef02_Has.f (k + 17) K x y = some (decide (0 ≤ x ∧ x < n ∧ 0 ≤ y ∧ y < n)) := by
  unfold gleberef02_Has.f
  rw [rside_eq hk, Option.bind_some]
  by_cases h1 : x ≥ 0
  · rw [if_pos h1]
    by_cases h2 : x < n
    · rw [if_pos h2]
      by_cases h3 : y ≥ 0
      · rw [if_pos h3]
        congr 1
        exact decide_eq_decide.mpr (by omega)
      · rw [if_neg h3]
        congr 1
        exact (decide_eq_false (by omega)).symm
    · rw [if_neg h2]
      congr 1
      exact (decide_eq_false (by omega)).symm
  · rw [if_neg h1]
    congr 1
    exact (decide_eq_false (by omega)).symm
theorem down_eq {n : Int} (hn : 2 ≤ n ∧ n ≤ 65536) (a : Int) (ha : -n < a ∧ a < n) : gleberef02_down.f a n = some (a % n) := by
  unfold gleberef02_down.f
  rw [if_neg (by omega)]
  by_cases h : 0 ≤ a
  · rw [Int.tmod_eq_emod_of_nonneg h, if_neg (by have := mod_in hn.1 a; omega)]
  · have h1 : Int.tmod a n = a := by
      have h2 : Int.tmod (-a) n = -a := by
        rw [Int.tmod_eq_emod_of_nonneg (by omega)]
        exact Int.emod_eq_of_lt (by omega) (by omega)
      rw [Int.neg_tmod] at h2
      omega
    rw [h1, if_pos (by omega), wrap64_small (by omega) (by omega)]
    rcases mod_diff (n := n) (d := a) hn.1 (by omega) (by omega) with ⟨q1, q2⟩ | ⟨q1, q2⟩
    · omega
    · rw [q2]
theorem rapart_eq {K n a b : Int} (hk : OkT K n) (k : Nat) (ha : 0 ≤ a ∧ a < n) (hb : 0 ≤ b ∧ b < n) : gleberef02_Apart.f (k + 17) K a b = some (ap n a b) := by
  have hd := okT_bd hk
  unfold gleberef02_Apart.f
  rw [rside_eq hk, Option.bind_some, if_neg (by omega), if_neg (by omega), if_neg (by omega), decide_eq_false (by omega)]
  show gleberef02_Apart.j0 ((k + 16) + 1) _ _ _ _ = _
  simp only [gleberef02_Apart.j0]
  rw [if_neg (by decide), wrap64_small (x := b - a) (by omega) (by omega), wrap64_small (x := a - b) (by omega) (by omega), down_eq (by omega) _ (by omega), Option.bind_some, down_eq (by omega) _ (by omega), Option.bind_some]
  congr 1
  unfold ap mn
  rcases mod_diff (n := n) (d := b - a) hd.2.2.1 (by omega) (by omega) with ⟨q1, q2⟩ | ⟨q1, q2⟩ <;> rcases mod_diff (n := n) (d := a - b) hd.2.2.1 (by omega) (by omega) with ⟨p1, p2⟩ | ⟨p1, p2⟩ <;> rw [q2, p2] <;> (repeat' split) <;> omega
theorem roff_eq {K n q lo c : Int} (hk : OkT K n) (k : Nat) (hq : 0 ≤ q ∧ q < n) (hlo : 0 ≤ lo) (hc : 0 < c) (hhi : lo + c ≤ n) : gleberef04_off.f (k + 18) K q lo c = some (od n q lo (lo + c)) := by
  have hd := okT_bd hk
  unfold gleberef04_off.f od
  rw [wrap64_small (x := lo + c) (by omega) (by omega)]
  by_cases h1 : lo ≤ q ∧ q < lo + c
  · rw [if_pos h1, if_pos (by omega), decide_eq_true h1.2]
    show gleberef04_off.j0 ((k + 17) + 1) _ _ _ _ _ = _
    simp only [gleberef04_off.j0]
    rw [if_pos trivial]
  · rw [if_neg h1]
    have hj : gleberef04_off.j0 ((k + 17) + 1) K q lo c false = some (mn (ap n q lo) (ap n q (lo + c - 1))) := by
      simp only [gleberef04_off.j0]
      rw [if_neg (by decide), wrap64_small (x := lo + c) (by omega) (by omega), wrap64_small (x := lo + c - 1) (by omega) (by omega), rapart_eq hk k hq ⟨hlo, by omega⟩, Option.bind_some, rapart_eq hk k hq ⟨by omega, by omega⟩]
      rfl
    by_cases h2 : q ≥ lo
    · rw [if_pos h2, decide_eq_false (by omega)]
      exact hj
    · rw [if_neg h2]
      exact hj
theorem rrdist_eq {K n : Int} (hk : OkT K n) (k : Nat) (r : S29) (x y : Int) : gleberef04_Dist.f (k + 20) K r.f0 r.f1 r.f2 r.f3 x y =
    some (if Rt n r ∧ Pos r ∧ (0 ≤ x ∧ x < n ∧ 0 ≤ y ∧ y < n) then od n x r.f0 (r.f0 + r.f2) + od n y r.f1 (r.f1 + r.f3) else -1) := by
  have hb := okT_bd hk
  unfold gleberef04_Dist.f
  rw [show k + 20 = (k + 3) + 17 from rfl, rrect_eq hk, Option.bind_some]
  have hno : gleberef04_Dist.j0 ((k + 19) + 1) K true r.f0 r.f1 r.f2 r.f3 x y = some (-1) := by
    simp only [gleberef04_Dist.j0]
    rw [if_pos trivial]
  by_cases h1 : Rt n r
  · rw [decide_eq_true h1, if_pos rfl, rarea_eq, Option.bind_some]
    by_cases h2 : Pos r
    · have h3 := (ar_pos r).mpr h2
      rw [if_neg (by omega), rhas_eq hk, Option.bind_some]
      by_cases h4 : 0 ≤ x ∧ x < n ∧ 0 ≤ y ∧ y < n
      · rw [decide_eq_true h4, if_pos ⟨h1, h2, h4⟩]
        show gleberef04_Dist.j0 ((k + 19) + 1) _ _ _ _ _ _ _ _ = _
        simp only [gleberef04_Dist.j0]
        unfold Rt at h1
        have h2' := h2
        unfold Pos at h2'
        rw [if_neg (by decide), show k + 19 = (k + 1) + 18 from rfl, roff_eq hk (k + 1) ⟨by omega, by omega⟩ (by omega) (by omega) (by omega), Option.bind_some, roff_eq hk (k + 1) ⟨by omega, by omega⟩ (by omega) (by omega) (by omega), Option.bind_some]
        have q1 := od_bd (n := n) (q := x) (lo := r.f0) (hi := r.f0 + r.f2) (by omega)
        have q2 := od_bd (n := n) (q := y) (lo := r.f1) (hi := r.f1 + r.f3) (by omega)
        rw [wrap64_small (by omega) (by omega)]
      · rw [decide_eq_false h4, if_neg (fun q => h4 q.2.2)]
        exact hno
    · have h3 : ar r = 0 := if_neg h2
      rw [if_pos h3, if_neg (fun q => h2 q.2.1)]
      exact hno
  · rw [decide_eq_false h1, if_neg (by decide), if_neg (fun q => h1 q.1)]
    exact hno
theorem dists_same (K : Int) (r : S29) (x y : Int) (k : Nat) : ∃ v, window_Dist.f (k + 1) K r.f0 r.f1 r.f2 r.f3 x y = some v ∧ gleberef04_Dist.f (k + 20) K r.f0 r.f1 r.f2 r.f3 x y = some v := by
  by_cases hK : 1 ≤ K ∧ K ≤ 16
  · exact ⟨_, rdist_eq (okT_of hK) k r x y, rrdist_eq (okT_of hK) k r x y⟩
  · refine ⟨-1, ?_, ?_⟩
    · unfold window_Dist.f
      rw [right_no hK, Option.bind_some, if_neg (by decide)]
    · unfold gleberef04_Dist.f gleberef04_Right.f
      rw [rside_no hK, Option.bind_some, if_neg (by decide), Option.bind_some, if_neg (by decide)]
      show gleberef04_Dist.j0 ((k + 19) + 1) _ _ _ _ _ _ _ _ = _
      simp only [gleberef04_Dist.j0]
      rw [if_pos trivial]
theorem windowCuts_pure : WindowCuts_Pure := by
  intro K x y w h d b u v b0 b1 b2 b3 b4 b5 b6 b7 b8
  refine ⟨100, ?_⟩
  unfold glebelaw04_WindowCuts.f glebelaw04_Own.f
  simp only [Option.bind_some]
  have hP : ∃ l e, l.length ≤ 4 ∧ window_Plain.f 100 K x y w h = some (l, e) ∧ gleberef04_Plain.f 100 K x y w h = some (l.map toR, e) := by
    by_cases hw : ∃ n, OkT K n ∧ Wn n x y w h
    · obtain ⟨n, hk, hw⟩ := hw
      exact ⟨_, _, plain_len, plain_eq hk 98 hw, rplain_eq hk 83 hw⟩
    · have hw' : ∀ n, OkT K n → ¬ Wn n x y w h := fun n hn hw2 => hw ⟨n, hn, hw2⟩
      exact ⟨[], 1, by decide, plain_no 100 hw', rplain_no 83 hw'⟩
  obtain ⟨l, e, hl, hp1, hp2⟩ := hP
  rw [hp1, hp2]
  simp only [Option.bind_some]
  rw [show (100 : Nat) = (99 - l.length) + 1 + l.length by omega, same_eq _ l (by omega), ← show (100 : Nat) = (99 - l.length) + 1 + l.length by omega]
  simp only [Option.bind_some, if_true, glebelaw04_num.f]
  have hC : ∃ c z, c.length ≤ 4 ∧ window_Cut.f 100 K x y w h d b = some c ∧ gleberef04_Cut.f 100 K x y w h d b = some (c.map toR) ∧ window_Covers.f 100 K x y w h d b = some z ∧ gleberef04_Covers.f 100 K x y w h d b = some z := by
    by_cases hw : ∃ n, OkT K n ∧ PathOk K d b ∧ Wn n x y w h
    · obtain ⟨n, hk, hp, hw⟩ := hw
      exact ⟨_, _, Nat.le_trans (cutL_len _ _) plain_len, cut_eq hk hp hw 92, rcut_eq hk hp hw 60, covers_yes hk hp hw 88, rcovers_yes hk hp hw 40⟩
    · have hw' : ∀ n, OkT K n → PathOk K d b → ¬ Wn n x y w h := fun n hn hp hw2 => hw ⟨n, hn, hp, hw2⟩
      exact ⟨[], false, by decide, cut_no hw' 98, rcut_no hw' 60, covers_no hw' 88, rcovers_no hw' 40⟩
  obtain ⟨c, z, hc, hc1, hc2, hc3, hc4⟩ := hC
  rw [hc1, hc2]
  simp only [Option.bind_some]
  rw [show (100 : Nat) = (99 - c.length) + 1 + c.length by omega, same_eq _ c (by omega), ← show (100 : Nat) = (99 - c.length) + 1 + c.length by omega]
  simp only [Option.bind_some, if_true]
  rw [hc3, hc4]
  simp only [Option.bind_some, beq_self_eq_true, if_true]
  obtain ⟨v1, hv1, hv2⟩ := dists_same K ⟨x, y, w, h⟩ u v 80
  have hv1' : window_Dist.f 100 K x y w h u v = some v1 := by
    have up : ∀ j, window_Dist.f (81 + j) K x y w h u v = some v1 := fun j => by
      induction j with
      | zero => exact hv1
      | succ j ih => exact window_Dist.mono _ _ _ _ _ _ _ _ _ ih
    exact up 19
  rw [hv1', hv2]
  simp only [Option.bind_some, if_true]
  rw [show (100 : Nat) = 97 + 3 from rfl, knows_eq]
  rfl
end Go.Proofs.Ytnkfbkbllkdnoaa.PW
namespace Go.Proofs.Ytnkfbkbllkdnoaa.Pure
theorem WindowCuts : Go.Proofs.Ytnkfbkbllkdnoaa.PW.WindowCuts_Pure := Go.Proofs.Ytnkfbkbllkdnoaa.PW.windowCuts_pure
end Go.Proofs.Ytnkfbkbllkdnoaa.Pure
