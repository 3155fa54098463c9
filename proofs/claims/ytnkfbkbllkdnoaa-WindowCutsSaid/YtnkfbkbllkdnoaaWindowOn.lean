/- What the window's laws need of 'in', 'sum', 'Some', 'Dist' and 'knows'. -/
import Derived.Test.YtnkfbkbllkdnoaaWindowFacts
import Derived.Test.YtnkfbkbllkdnoaaPWx2
namespace Go.Proofs.Ytnkfbkbllkdnoaa.PW
open Go.RowKit Go.Proofs.YtnkfbkbllkdnoaaW.PrintWords Go.Proofs.YtnkfbkbllkdnoaaW.PrintLast Go.Proofs.YtnkfbkbllkdnoaaW.PrintMore
set_option linter.unusedVariables false
theorem wrap_inc (n : Nat) (h : n ≤ 100000) : wrap64 ((n : Int) + 1) = ((n + 1 : Nat) : Int) := by
  rw [wrap64_small (by omega) (by omega)]
  rfl
/-- The areas' sum. -/
def sm : List S29 → Int
  | [] => 0
  | r :: l => ar r + sm l
theorem sm_append (a b : List S29) : sm (a ++ b) = sm a + sm b := by
  induction a with
  | nil => simp [sm]
  | cons r a ih => simp only [List.cons_append, sm, ih]; omega
theorem ar_bd (r : S29) : 0 ≤ ar r ∧ ar r ≤ 1152921504606846976 := by
  unfold ar
  split
  · rename_i h
    unfold Pos at h
    have := mul_bd (a := r.f2) (b := r.f3) (m := 1073741824) (n := 1073741824) (by omega) (by omega) (by omega) (by omega)
    omega
  · omega
theorem sm_bd (l : List S29) : 0 ≤ sm l ∧ sm l ≤ 1152921504606846976 * (l.length : Int) := by
  induction l with
  | nil => simp [sm]
  | cons r l ih =>
    have := ar_bd r
    simp only [sm, List.length_cons]
    omega
theorem sm_filter (l : List S29) : sm (l.filter (fun r => decide (Pos r))) = sm l := by
  induction l with
  | nil => rfl
  | cons r l ih =>
    by_cases h : Pos r
    · rw [List.filter_cons_of_pos (by simpa using h)]
      simp only [sm, ih]
    · rw [List.filter_cons_of_neg (by simpa using h)]
      simp only [sm, ih]
      have : ar r = 0 := if_neg h
      omega
/-- How far a number is from the nearest of a span. -/
def od (n q lo hi : Int) : Int := if lo ≤ q ∧ q < hi then 0 else mn (ap n q lo) (ap n q (hi - 1))
theorem off_eq {K n : Int} (hk : OkT K n) (k : Nat) {q lo hi : Int} (hq : 0 ≤ q ∧ q < n) (hlo : 0 ≤ lo) (hlt : lo < hi) (hhi : hi ≤ n) : window_off.f (k + 1) K q lo hi = some (od n q lo hi) := by
  have hb := okT_bd hk
  unfold window_off.f od
  by_cases h : lo ≤ q ∧ q < hi
  · rw [if_pos h, if_pos h]
  · rw [if_neg h, if_neg h, wrap64_small (by omega) (by omega), apart_eq hk k hq ⟨hlo, by omega⟩, apart_eq hk k hq ⟨by omega, by omega⟩]
    rfl
theorem od_bd {n q lo hi : Int} (hn : 2 ≤ n) : 0 ≤ od n q lo hi ∧ od n q lo hi ≤ n := by
  have h1 := ap_bd (n := n) (a := q) (b := lo) hn
  have h2 := ap_bd (n := n) (a := q) (b := hi - 1) hn
  unfold od
  split
  · omega
  · have := mn_bd (a := ap n q lo) (b := ap n q (hi - 1)) (l := 0) (h := n) (by omega) (by omega)
    omega
/-- Is a rectangle one of the torus? -/
def Rt (n : Int) (r : S29) : Prop := 0 ≤ r.f0 ∧ 0 ≤ r.f1 ∧ 0 ≤ r.f2 ∧ 0 ≤ r.f3 ∧ r.f0 + r.f2 ≤ n ∧ r.f1 + r.f3 ≤ n
instance (n : Int) (r : S29) : Decidable (Rt n r) := by unfold Rt; exact inferInstance
theorem rdist_eq {K n : Int} (hk : OkT K n) (k : Nat) (r : S29) (x y : Int) : window_Dist.f (k + 1) K r.f0 r.f1 r.f2 r.f3 x y =
    some (if Rt n r ∧ Pos r ∧ (0 ≤ x ∧ x < n ∧ 0 ≤ y ∧ y < n) then od n x r.f0 (r.f0 + r.f2) + od n y r.f1 (r.f1 + r.f3) else -1) := by
  have hb := okT_bd hk
  unfold window_Dist.f
  rw [right_eq hk, empty_eq, has_eq hk]
  simp only [Option.bind_some, decide_eq_true_eq]
  by_cases h1 : Rt n r
  · have h1' := h1
    unfold Rt at h1'
    rw [if_pos h1']
    by_cases h2 : Pos r
    · rw [if_neg (not_not_intro h2)]
      have h2' := h2
      unfold Pos at h2'
      by_cases h3 : 0 ≤ x ∧ x < n ∧ 0 ≤ y ∧ y < n
      · rw [if_pos h3, if_pos ⟨h1, h2, h3⟩, wrap64_small (x := r.f0 + r.f2) (by omega) (by omega), wrap64_small (x := r.f1 + r.f3) (by omega) (by omega)]
        rw [off_eq hk k ⟨by omega, by omega⟩ (by omega) (by omega) (by omega), off_eq hk k ⟨by omega, by omega⟩ (by omega) (by omega) (by omega)]
        have q1 := od_bd (n := n) (q := x) (lo := r.f0) (hi := r.f0 + r.f2) (by omega)
        have q2 := od_bd (n := n) (q := y) (lo := r.f1) (hi := r.f1 + r.f3) (by omega)
        simp only [Option.bind_some]
        rw [wrap64_small (by omega) (by omega)]
      · rw [if_neg h3, if_neg (fun q => h3 q.2.2)]
    · rw [if_pos h2, if_neg (fun q => h2 q.2.1)]
  · have h1' := h1
    unfold Rt at h1'
    rw [if_neg h1', if_neg (fun q => h1 q.1)]
theorem knows_eq (k : Nat) : glebelaw04_knows.f (k + 3) = some true := by
  have h2 : OkT 2 4 := ⟨by decide, by decide, by decide⟩
  have hp : plain 4 3 3 2 1 = [⟨3, 3, 1, 1⟩, ⟨0, 3, 1, 1⟩] := rfl
  unfold glebelaw04_knows.f
  rw [plain_eq h2 (k + 1) (by unfold Wn; omega), hp]
  have hd := rdist_eq h2 (k + 2) ⟨3, 3, 1, 1⟩ 0 0
  simp only [Option.bind_some, glebelaw04_num.f]
  have e0 : rd_T29 [⟨3, 3, 1, 1⟩, ⟨0, 3, 1, 1⟩] 0 = ⟨3, 3, 1, 1⟩ := rfl
  have e1 : rd_T29 [⟨3, 3, 1, 1⟩, ⟨0, 3, 1, 1⟩] 1 = ⟨0, 3, 1, 1⟩ := rfl
  rw [e0, e1]
  simp only [List.length_cons, List.length_nil]
  rw [hd]
  rfl
theorem cut_cases {n x w : Int} (hx : 0 ≤ x ∧ x < n) (hw : 0 ≤ w ∧ w ≤ n) : ∃ a, mn w (n - x) = a ∧ ((a = w ∧ x + w ≤ n) ∨ (a = n - x ∧ n < x + w)) := by
  refine ⟨_, rfl, ?_⟩
  unfold mn
  split <;> omega
theorem parts_right {n x y w h : Int} (hw : Wn n x y w h) : ∀ r ∈ parts n x y w h, Rt n r := by
  obtain ⟨h1, h2, h3, h4⟩ := hw
  obtain ⟨a, ha, ha'⟩ := cut_cases h1 h3
  obtain ⟨b, hb, hb'⟩ := cut_cases h2 h4
  unfold parts
  rw [ha, hb]
  intro r hr
  simp only [List.mem_cons, List.not_mem_nil, or_false] at hr
  unfold Rt
  rcases hr with rfl | rfl | rfl | rfl <;> dsimp only <;> omega
theorem ar_mul {n : Int} {r : S29} (hn : n ≤ 65536) (h : Rt n r) : ar r = r.f2 * r.f3 := by
  unfold Rt at h
  unfold ar
  by_cases h0 : r.f2 = 0
  · rw [if_neg (by unfold Pos; omega), h0, Int.zero_mul]
  · by_cases h1 : r.f3 = 0
    · rw [if_neg (by unfold Pos; omega), h1, Int.mul_zero]
    · rw [if_pos (by unfold Pos; omega)]
theorem plain_sum {n x y w h : Int} (hn : n ≤ 65536) (hw : Wn n x y w h) : sm (plain n x y w h) = w * h := by
  unfold plain
  rw [sm_filter]
  have hr := parts_right hw
  unfold parts at *
  simp only [sm]
  rw [ar_mul hn (hr _ (by simp)), ar_mul hn (hr _ (by simp)), ar_mul hn (hr _ (by simp)), ar_mul hn (hr _ (by simp))]
  dsimp only
  generalize mn w (n - x) = a
  generalize mn h (n - y) = b
  grind
end Go.Proofs.Ytnkfbkbllkdnoaa.PW
