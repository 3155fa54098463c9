/- The reference's rectangles: what they answer, as the window's facts tell it. -/
import Derived.Test.YtnkfbkbllkdnoaaWindowOn
import Derived.Test.YtnkfbkbllkdnoaaWindowTwo
import Derived.Test.YtnkfbkbllkdnoaaPWx1
namespace Go.Proofs.Ytnkfbkbllkdnoaa.PW
open Go.RowKit Go.Proofs.YtnkfbkbllkdnoaaW.PrintWords Go.Proofs.YtnkfbkbllkdnoaaW.PrintLast Go.Proofs.YtnkfbkbllkdnoaaW.PrintMore
set_option linter.unusedVariables false
theorem rright_eq (K : Int) : gleberef02_Right.f K = some (decide (1 ≤ K ∧ K ≤ 16)) := by
  unfold gleberef02_Right.f
  by_cases h1 : K ≥ 1
  · rw [if_pos h1]
    congr 1
    exact decide_eq_decide.mpr (by omega)
  · rw [if_neg h1]
    congr 1
    exact (decide_eq_false (by omega)).symm
theorem rside_loop (K : Int) (hK : K ≤ 16) (j : Nat) : ∀ (k i : Nat), (i : Int) + j = K → gleberef02_Side.l0 (k + 1 + j) K (2 ^ i) (i : Int) = some (2 ^ (i + j)) := by
  induction j with
  | zero =>
    intro k i h
    simp only [gleberef02_Side.l0]
    rw [if_neg (by omega)]
    simp
  | succ j ih =>
    intro k i h
    show gleberef02_Side.l0 ((k + 1 + j) + 1) _ _ _ = _
    simp only [gleberef02_Side.l0]
    have := two_pow_bd i (by omega)
    rw [if_pos (by omega), wrap64_small (x := 2 ^ i * 2) (by omega) (by omega), wrap64_small (x := (i : Int) + 1) (by omega) (by omega)]
    have := ih k (i + 1) (by omega)
    rw [Int.pow_succ] at this
    rw [show ((i + 1 : Nat) : Int) = (i : Int) + 1 from rfl] at this
    rw [this, show i + 1 + j = i + (j + 1) by omega]
theorem rside_eq {K n : Int} (hk : OkT K n) (k : Nat) : gleberef02_Side.f (k + 17) K = some n := by
  unfold gleberef02_Side.f
  have hb := okT_bd hk
  rw [rright_eq, Option.bind_some, if_pos (by simpa using ⟨hb.1, hb.2.1⟩)]
  have h := rside_loop K hb.2.1 K.toNat (k + 16 - K.toNat) 0 (by omega)
  rw [show k + 16 - K.toNat + 1 + K.toNat = k + 17 by omega] at h
  simp only [Nat.zero_add] at h
  rw [hk.2.2]
  simpa using h
theorem rside_no {K : Int} (h : ¬ (1 ≤ K ∧ K ≤ 16)) (k : Nat) : gleberef02_Side.f k K = some 0 := by
  unfold gleberef02_Side.f
  rw [rright_eq, decide_eq_false h]
  rfl
theorem rfine_eq {K n : Int} (hk : OkT K n) (k : Nat) (x y w h : Int) : gleberef04_Fine.f (k + 17) K x y w h = some (decide (Wn n x y w h)) := by
  unfold gleberef04_Fine.f Wn
  rw [rside_eq hk, Option.bind_some]
  by_cases h1 : x ≥ 0 <;> by_cases h2 : x < n <;> by_cases h3 : y ≥ 0 <;> by_cases h4 : y < n <;> by_cases h5 : w ≥ 0 <;> by_cases h6 : w ≤ n <;> by_cases h7 : h ≥ 0 <;> simp [h1, h2, h3, h4, h5, h6, h7] <;> omega
theorem rfine_no {K : Int} (hK : ¬ (1 ≤ K ∧ K ≤ 16)) (k : Nat) (x y w h : Int) : gleberef04_Fine.f k K x y w h = some false := by
  unfold gleberef04_Fine.f
  rw [rside_no hK, Option.bind_some]
  by_cases h1 : x ≥ 0
  · rw [if_pos h1, if_neg (by omega)]
  · rw [if_neg h1]
def toR (r : S29) : S23 := ⟨r.f0, r.f1, r.f2, r.f3⟩
theorem rd23_at (pre : List S23) (r : S23) (post : List S23) : rd_T23 (pre ++ r :: post) (pre.length : Int) = r := by
  unfold rd_T23
  simp
theorem rd23_map (pre : List S29) (r : S29) (post : List S29) : rd_T23 ((pre ++ r :: post).map toR) (pre.length : Int) = toR r := by
  have := rd23_at (pre.map toR) (toR r) (post.map toR)
  simpa using this
theorem rplain_loop (n : Int) (hn : n ≤ 65536) (l : List S29) (hl : l.length = 4) (hr : ∀ r ∈ l, Rt n r) (k : Nat) (xs : List S29) : ∀ (pre : List S29) (out : List S23), l = pre ++ xs → out.length ≤ pre.length →
    gleberef04_Plain.l0 (k + 1 + xs.length) (l.map toR) out (pre.length : Int) = some (out ++ (xs.filter (fun r => decide (Pos r))).map toR, 0) := by
  induction xs with
  | nil =>
    intro pre out h1 h2
    have hp : pre.length = 4 := by rw [h1] at hl; simpa using hl
    simp only [gleberef04_Plain.l0, List.length_nil, Nat.add_zero]
    rw [if_neg (by omega)]
    simp
  | cons r xs ih =>
    intro pre out h1 h2
    have hlen := congrArg List.length h1
    simp at hlen
    have hR : Rt n r := hr r (by rw [h1]; simp)
    unfold Rt at hR
    have hrd : rd_T23 (l.map toR) (pre.length : Int) = toR r := by rw [h1]; exact rd23_map pre r xs
    show gleberef04_Plain.l0 ((k + 1 + xs.length) + 1) _ _ _ = _
    simp only [gleberef04_Plain.l0]
    rw [if_pos (by omega), if_pos (by omega), if_pos (by rw [List.length_map]; omega), hrd, wrap_inc _ (by omega)]
    have hn1 : ((pre.length + 1 : Nat) : Int) = ((pre ++ [r]).length : Int) := by simp
    rw [hn1]
    have ih1 := fun o => ih (pre ++ [r]) o (by rw [h1]; simp)
    by_cases hp : Pos r
    · have hp' := hp
      unfold Pos at hp'
      rw [if_pos (show (toR r).f2 > 0 from hp'.2.2.1), if_pos (show (toR r).f3 > 0 from hp'.2.2.2.1), if_pos (by omega), ih1 _ (by simp; omega), List.filter_cons_of_pos (by simpa using hp)]
      simp [toR]
    · have hp' := hp
      unfold Pos at hp'
      rw [List.filter_cons_of_neg (by simpa using hp)]
      by_cases h2' : (toR r).f2 > 0
      · have h2'' : r.f2 > 0 := h2'
        rw [if_pos h2', if_neg (show ¬ (toR r).f3 > 0 by show ¬ r.f3 > 0; omega), ih1 _ (by simp; omega)]
      · rw [if_neg h2', ih1 _ (by simp; omega)]
theorem rplain_eq {K n x y w h : Int} (hk : OkT K n) (k : Nat) (hw : Wn n x y w h) : gleberef04_Plain.f (k + 17) K x y w h = some ((plain n x y w h).map toR, 0) := by
  have hb := okT_bd hk
  unfold gleberef04_Plain.f
  rw [rfine_eq hk, decide_eq_true hw, Option.bind_some, if_pos rfl, rside_eq hk, Option.bind_some]
  have hq := rplain_loop n (by omega) (parts n x y w h) rfl (parts_right hw) (k + 12) (parts n x y w h) [] [] rfl (Nat.le_refl _)
  rw [show k + 12 + 1 + (parts n x y w h).length = k + 17 from rfl] at hq
  obtain ⟨h1, h2, h3, h4⟩ := hw
  rw [wrap64_small (x := n - x) (by omega) (by omega), wrap64_small (x := n - y) (by omega) (by omega)]
  have q1 := mn_bd (a := w) (b := n - x) (l := 0) (h := n) (by omega) (by omega)
  have q2 := mn_bd (a := h) (b := n - y) (l := 0) (h := n) (by omega) (by omega)
  rw [wrap64_small (x := w - mn w (n - x)) (by omega) (by omega), wrap64_small (x := h - mn h (n - y)) (by omega) (by omega)]
  exact hq
theorem rplain_no {K x y w h : Int} (k : Nat) (hh : ∀ n, OkT K n → ¬ Wn n x y w h) : gleberef04_Plain.f (k + 17) K x y w h = some ([], 1) := by
  unfold gleberef04_Plain.f
  by_cases hK : 1 ≤ K ∧ K ≤ 16
  · rw [rfine_eq (okT_of hK), decide_eq_false (hh _ (okT_of hK))]
    rfl
  · rw [rfine_no hK]
    rfl
theorem same_loop (k : Nat) (l : List S29) (hl : l.length ≤ 1000) (xs : List S29) : ∀ (pre : List S29), l = pre ++ xs → glebelaw04_Same.l0 (k + 1 + xs.length) l (l.map toR) (pre.length : Int) = some true := by
  induction xs with
  | nil =>
    intro pre h1
    have : l.length = pre.length := by rw [h1]; simp
    simp only [glebelaw04_Same.l0, List.length_nil, Nat.add_zero]
    rw [if_neg (by omega)]
  | cons r xs ih =>
    intro pre h1
    have hlen := congrArg List.length h1
    simp at hlen
    show glebelaw04_Same.l0 ((k + 1 + xs.length) + 1) _ _ _ = _
    simp only [glebelaw04_Same.l0, glebelaw04_Ref.f, Option.bind_some]
    have r1 : rd_T29 l (pre.length : Int) = r := by rw [h1]; exact rd29_at pre r xs
    have r2 : rd_T23 (l.map toR) (pre.length : Int) = toR r := by rw [h1]; exact rd23_map pre r xs
    rw [if_pos (by omega), if_pos (by omega), if_pos (by rw [List.length_map]; omega), r1, r2, wrap_inc _ (by omega)]
    simp only [toR, beq_self_eq_true, Bool.not_true, Bool.or_self]
    rw [if_neg (by decide)]
    have := ih (pre ++ [r]) (by rw [h1]; simp)
    simpa using this
theorem same_eq (k : Nat) (l : List S29) (hl : l.length ≤ 1000) : glebelaw04_Same.f (k + 1 + l.length) l (l.map toR) = some true := by
  unfold glebelaw04_Same.f
  rw [if_pos (by simp)]
  exact same_loop k l hl l [] rfl
theorem rnum_eq (a : Int) : gleberef04_num.f a = some (decide (0 ≤ a ∧ a ≤ 1073741824)) := by
  unfold gleberef04_num.f
  by_cases h : a ≥ 0
  · rw [if_pos h]
    congr 1
    exact decide_eq_decide.mpr (by omega)
  · rw [if_neg h]
    congr 1
    exact (decide_eq_false (by omega)).symm
theorem rrfine_eq (r : S29) : gleberef04_fine.f r.f0 r.f1 r.f2 r.f3 = some (decide (Fine r)) := by
  unfold gleberef04_fine.f
  simp only [rnum_eq, Option.bind_some, decide_eq_true_eq]
  by_cases h0 : 0 ≤ r.f0 ∧ r.f0 ≤ 1073741824
  · rw [if_pos h0]
    by_cases h1 : 0 ≤ r.f1 ∧ r.f1 ≤ 1073741824
    · rw [if_pos h1]
      by_cases h2 : 0 ≤ r.f2 ∧ r.f2 ≤ 1073741824
      · rw [if_pos h2]
        by_cases h3 : 0 ≤ r.f3 ∧ r.f3 ≤ 1073741824
        · rw [if_pos h3, wrap64_small (by omega) (by omega), wrap64_small (by omega) (by omega)]
          by_cases h4 : 0 ≤ r.f0 + r.f2 ∧ r.f0 + r.f2 ≤ 1073741824
          · rw [if_pos h4]
            congr 1
            exact decide_eq_decide.mpr (by unfold Fine; omega)
          · rw [if_neg h4]
            congr 1
            exact (decide_eq_false (by unfold Fine; omega)).symm
        · rw [if_neg h3]
          congr 1
          exact (decide_eq_false (by unfold Fine; omega)).symm
      · rw [if_neg h2]
        congr 1
        exact (decide_eq_false (by unfold Fine; omega)).symm
    · rw [if_neg h1]
      congr 1
      exact (decide_eq_false (by unfold Fine; omega)).symm
  · rw [if_neg h0]
    congr 1
    exact (decide_eq_false (by unfold Fine; omega)).symm
theorem rarea_eq (r : S29) : gleberef04_Area.f r.f0 r.f1 r.f2 r.f3 = some (ar r) := by
  unfold gleberef04_Area.f
  rw [rrfine_eq, Option.bind_some]
  simp only [decide_eq_true_eq]
  by_cases h : Fine r
  · rw [if_pos h]
    unfold Fine at h
    have := mul_bd (a := r.f2) (b := r.f3) (m := 1073741824) (n := 1073741824) (by omega) (by omega) (by omega) (by omega)
    rw [wrap64_small (by omega) (by omega)]
    unfold ar
    by_cases hp : Pos r
    · rw [if_pos hp]
    · rw [if_neg hp]
      unfold Pos at hp
      by_cases h2 : r.f2 = 0
      · rw [h2, Int.zero_mul]
      · rw [show r.f3 = 0 by omega, Int.mul_zero]
  · rw [if_neg h]
    unfold ar
    rw [if_neg (fun hp => h (fine_of_pos hp))]
theorem rmeet_eq (k : Nat) (a b : S29) (ha : Fine a) (hb : Fine b) : gleberef04_Meet.f (k + 1) a.f0 a.f1 a.f2 a.f3 b.f0 b.f1 b.f2 b.f3 = some ((me a b).f0, (me a b).f1, (me a b).f2, (me a b).f3) := by
  unfold gleberef04_Meet.f
  rw [rrfine_eq, rrfine_eq, decide_eq_true ha, decide_eq_true hb]
  simp only [Option.bind_some, if_true, gleberef04_Meet.j0, Bool.not_true]
  rw [if_neg (by decide)]
  unfold me
  unfold Fine at ha hb
  rw [wrap64_small (x := a.f0 + a.f2) (by omega) (by omega), wrap64_small (x := b.f0 + b.f2) (by omega) (by omega), wrap64_small (x := a.f1 + a.f3) (by omega) (by omega), wrap64_small (x := b.f1 + b.f3) (by omega) (by omega)]
  have q1 := mn_bd (a := a.f0 + a.f2) (b := b.f0 + b.f2) (l := 0) (h := 1073741824) (by omega) (by omega)
  have q2 := mn_bd (a := a.f1 + a.f3) (b := b.f1 + b.f3) (l := 0) (h := 1073741824) (by omega) (by omega)
  have q3 := mx_bd (a := a.f0) (b := b.f0) (l := 0) (h := 1073741824) (by omega) (by omega)
  have q4 := mx_bd (a := a.f1) (b := b.f1) (l := 0) (h := 1073741824) (by omega) (by omega)
  rw [wrap64_small (x := mn (a.f0 + a.f2) (b.f0 + b.f2) - mx a.f0 b.f0) (by omega) (by omega), wrap64_small (x := mn (a.f1 + a.f3) (b.f1 + b.f3) - mx a.f1 b.f1) (by omega) (by omega)]
  by_cases h1 : mx a.f0 b.f0 < mn (a.f0 + a.f2) (b.f0 + b.f2)
  · rw [if_neg (by omega)]
    by_cases h2 : mx a.f1 b.f1 < mn (a.f1 + a.f3) (b.f1 + b.f3)
    · rw [if_neg (by omega)]
      have hc : Pos a ∧ Pos b := by
        unfold Pos
        unfold mx mn at h1 h2
        (repeat' split at h1) <;> (repeat' split at h2) <;> omega
      rw [if_pos ⟨hc.1, hc.2, h1, h2⟩]
    · rw [if_pos (by omega), if_neg (fun q => h2 q.2.2.2)]
  · rw [if_pos (by omega), if_neg (fun q => h1 q.2.2.1)]
end Go.Proofs.Ytnkfbkbllkdnoaa.PW
