/- WindowDists: how far a cell is from a rectangle is how far it is from its nearest cell. -/
import Derived.Test.YtnkfbkbllkdnoaaWindowOn
import Derived.Test.YtnkfbkbllkdnoaaPWx10
import Derived.Test.YtnkfbkbllkdnoaaStWindowDists
namespace Go.Proofs.Ytnkfbkbllkdnoaa.PW
open Go.RowKit Go.Proofs.YtnkfbkbllkdnoaaW.PrintWords Go.Proofs.YtnkfbkbllkdnoaaW.PrintLast Go.Proofs.YtnkfbkbllkdnoaaW.PrintMore
set_option linter.unusedVariables false
theorem ap_abs_ {n a b : Int} (hn : 2 ≤ n) (ha : 0 ≤ a ∧ a < n) (hb : 0 ≤ b ∧ b < n) : ap n a b = if a ≤ b then mn (b - a) (n - (b - a)) else mn (a - b) (n - (a - b)) := by
  unfold ap mn
  rcases mod_diff (n := n) (d := b - a) hn (by omega) (by omega) with ⟨h1, h2⟩ | ⟨h1, h2⟩ <;> rw [h2] <;> (repeat' split) <;> omega
/-- The nearest of a span: some number of it is so far, and none is nearer. -/
theorem od_min {n q lo hi : Int} (hn : 2 ≤ n) (hq : 0 ≤ q ∧ q < n) (hlo : 0 ≤ lo) (hlt : lo < hi) (hhi : hi ≤ n) :
    (∃ p, lo ≤ p ∧ p < hi ∧ ap n q p = od n q lo hi) ∧ ∀ p, lo ≤ p → p < hi → od n q lo hi ≤ ap n q p := by
  unfold od
  by_cases h : lo ≤ q ∧ q < hi
  · rw [if_pos h]
    refine ⟨⟨q, h.1, h.2, ?_⟩, fun p _ _ => (ap_bd (by omega)).1⟩
    rw [ap_abs_ hn hq hq, if_pos (Int.le_refl _)]
    unfold mn
    split <;> omega
  · rw [if_neg h]
    constructor
    · by_cases h2 : ap n q (hi - 1) < ap n q lo
      · exact ⟨hi - 1, by omega, by omega, by unfold mn; rw [if_pos h2]⟩
      · exact ⟨lo, by omega, by omega, by unfold mn; rw [if_neg h2]⟩
    · intro p h1 h2
      rw [ap_abs_ hn hq (b := p) ⟨by omega, by omega⟩, ap_abs_ hn hq (b := lo) ⟨by omega, by omega⟩, ap_abs_ hn hq (b := hi - 1) ⟨by omega, by omega⟩]
      have hp2 : ∀ a b c : Int, a ≤ c ∨ b ≤ c → mn a b ≤ c := fun a b c h => by unfold mn; split <;> omega
      have hp3 : ∀ a b c : Int, c ≤ a → c ≤ b → c ≤ mn a b := fun a b c h h' => by unfold mn; split <;> omega
      have hp4 : ∀ a b c : Int, mn a b = c → (a = c ∧ a ≤ b) ∨ (b = c ∧ b ≤ a) := fun a b c h => by subst h; unfold mn; split <;> omega
      by_cases h3 : q < lo
      · rw [if_pos (by omega), if_pos (by omega), if_pos (by omega)]
        generalize e1 : mn (lo - q) (n - (lo - q)) = z1
        generalize e2 : mn (hi - 1 - q) (n - (hi - 1 - q)) = z2
        have e1 := hp4 _ _ _ e1
        have e2 := hp4 _ _ _ e2
        refine hp3 _ _ _ (hp2 _ _ _ ?_) (hp2 _ _ _ ?_) <;> omega
      · rw [if_neg (by omega), if_neg (by omega), if_neg (by omega)]
        generalize e1 : mn (q - lo) (n - (q - lo)) = z1
        generalize e2 : mn (q - (hi - 1)) (n - (q - (hi - 1))) = z2
        have e1 := hp4 _ _ _ e1
        have e2 := hp4 _ _ _ e2
        refine hp3 _ _ _ (hp2 _ _ _ ?_) (hp2 _ _ _ ?_) <;> omega
/-- The nearest of the cells looked at so far (-1: none yet). -/
def Near (d : Int → Int → Int) (h best i m : Int) : Prop :=
  (best = -1 ∧ ∀ a b, 0 ≤ a → 0 ≤ b → b < h → ¬ (a < i ∨ (a = i ∧ b < m))) ∨
  (0 ≤ best ∧ (∃ a b, 0 ≤ a ∧ 0 ≤ b ∧ b < h ∧ (a < i ∨ (a = i ∧ b < m)) ∧ d a b = best) ∧ ∀ a b, 0 ≤ a → 0 ≤ b → b < h → (a < i ∨ (a = i ∧ b < m)) → best ≤ d a b)
theorem near_step {d : Int → Int → Int} {h best i m : Int} (hd : ∀ a b, 0 ≤ d a b) (hi : 0 ≤ i) (hm : 0 ≤ m ∧ m < h) (H : Near d h best i m) :
    Near d h (if best < 0 then d i m else if d i m < best then d i m else best) i (m + 1) := by
  right
  rcases H with ⟨rfl, h1⟩ | ⟨h0, ⟨a, b, ha, hb, hbh, hab, hd1⟩, h2⟩
  · rw [if_pos (by decide)]
    refine ⟨hd _ _, ⟨i, m, hi, hm.1, hm.2, .inr ⟨rfl, by omega⟩, rfl⟩, fun a b ha hb hbh hab => ?_⟩
    by_cases hq : a = i ∧ b = m
    · obtain ⟨rfl, rfl⟩ := hq
      omega
    · exact absurd (show a < i ∨ (a = i ∧ b < m) by omega) (h1 a b ha hb hbh)
  · rw [if_neg (by omega)]
    have hd2 := hd i m
    by_cases hlt : d i m < best
    · rw [if_pos hlt]
      refine ⟨hd2, ⟨i, m, hi, hm.1, hm.2, .inr ⟨rfl, by omega⟩, rfl⟩, fun a b ha hb hbh hab => ?_⟩
      by_cases hq : a = i ∧ b = m
      · obtain ⟨rfl, rfl⟩ := hq
        omega
      · have := h2 a b ha hb hbh (by omega)
        omega
    · rw [if_neg hlt]
      refine ⟨h0, ⟨a, b, ha, hb, hbh, by omega, hd1⟩, fun a b ha hb hbh hab => ?_⟩
      by_cases hq : a = i ∧ b = m
      · obtain ⟨rfl, rfl⟩ := hq
        omega
      · exact h2 a b ha hb hbh (by omega)
theorem near_row {d : Int → Int → Int} {h best i m : Int} (hm : h ≤ m) (H : Near d h best i m) : Near d h best (i + 1) 0 := by
  rcases H with ⟨rfl, h1⟩ | ⟨h0, ⟨a, b, ha, hb, hbh, hab, hd1⟩, h2⟩
  · exact .inl ⟨rfl, fun a b ha hb hbh => fun q => h1 a b ha hb hbh (by omega)⟩
  · exact .inr ⟨h0, ⟨a, b, ha, hb, hbh, by omega, hd1⟩, fun a b ha hb hbh hab => h2 a b ha hb hbh (by omega)⟩
def Ev (f : Nat → Option Bool) : Prop := ∃ k0, ∀ k, k0 ≤ k → f k = some true
section
variable {K n u v X Y W H : Int} (hk : OkT K n) (h16 : n ≤ 16) (hu : 0 ≤ u ∧ u < n) (hv : 0 ≤ v ∧ v < n) (hX : 0 ≤ X) (hY : 0 ≤ Y) (hW : 0 ≤ W ∧ X + W ≤ n) (hH : 0 ≤ H ∧ Y + H ≤ n)
include hk h16 hu hv hX hY hW hH
theorem dists_inner (i : Int) (hi : 0 ≤ i ∧ i < W) (hnext : ∀ best, Near (fun a b => ap n u (X + a) + ap n v (Y + b)) H best (i + 1) 0 → Ev fun k => glebelaw04_WindowDists.l0 k best (i + 1) u v K X Y W H) (j : Nat) :
    ∀ best m, 0 ≤ m → m + j = H → Near (fun a b => ap n u (X + a) + ap n v (Y + b)) H best i m → Ev fun k => glebelaw04_WindowDists.l1 k best i m u v K X Y W H := by
  have hb := okT_bd hk
  induction j with
  | zero =>
    intro best m hm hmj hN
    obtain ⟨k0, h0⟩ := hnext best (near_row (by omega) hN)
    refine ⟨k0 + 2, fun k hk2 => ?_⟩
    obtain ⟨k', rfl⟩ : ∃ k', k = k' + 1 + 1 := ⟨k - 2, by omega⟩
    simp only [glebelaw04_WindowDists.l1]
    rw [if_neg (by omega)]
    simp only [glebelaw04_WindowDists.j3]
    rw [if_neg (by decide), wrap64_small (by omega) (by omega)]
    exact h0 k' (by omega)
  | succ j ih =>
    intro best m hm hmj hN
    obtain ⟨k0, h0⟩ := ih _ (m + 1) (by omega) (by omega) (near_step (fun a b => by have := (ap_bd (n := n) (a := u) (b := X + a) (by omega)).1; have := (ap_bd (n := n) (a := v) (b := Y + b) (by omega)).1; omega) hi.1 ⟨hm, by omega⟩ hN)
    refine ⟨k0 + 5, fun k hk2 => ?_⟩
    obtain ⟨k', rfl⟩ : ∃ k', k = (k' + 2) + 1 + 1 := ⟨k - 4, by omega⟩
    simp only [glebelaw04_WindowDists.l1]
    rw [if_pos (by omega), decide_eq_true (by omega)]
    simp only [glebelaw04_WindowDists.j3]
    rw [if_pos trivial, wrap64_small (x := X + i) (by omega) (by omega), wrap64_small (x := Y + m) (by omega) (by omega), wrap64_small (x := m + 1) (by omega) (by omega)]
    rw [dist_eq hk _ hu hv ⟨by omega, by omega⟩ ⟨by omega, by omega⟩, Option.bind_some]
    have h1 := h0 (k' + 2) (by omega)
    dsimp only at h1
    by_cases c1 : best < 0
    · rw [if_pos c1]
      rw [if_pos c1] at h1
      exact h1
    · rw [if_neg c1]
      rw [if_neg c1] at h1
      by_cases c2 : ap n u (X + i) + ap n v (Y + m) < best
      · rw [if_pos c2]
        rw [if_pos c2] at h1
        exact h1
      · rw [if_neg c2]
        rw [if_neg c2] at h1
        exact h1
theorem dists_outer (j : Nat) : ∀ best i, 0 ≤ i → i + j = W → Near (fun a b => ap n u (X + a) + ap n v (Y + b)) H best i 0 → Ev fun k => glebelaw04_WindowDists.l0 k best i u v K X Y W H := by
  have hb := okT_bd hk
  induction j with
  | zero =>
    intro best i hi hij hN
    refine ⟨5, fun k hk2 => ?_⟩
    obtain ⟨k', rfl⟩ : ∃ k', k = (k' + 3) + 1 + 1 := ⟨k - 5, by omega⟩
    simp only [glebelaw04_WindowDists.l0]
    rw [if_neg (by omega)]
    simp only [glebelaw04_WindowDists.j1]
    rw [if_neg (by decide)]
    have hr := rdist_eq hk (k' + 2) ⟨X, Y, W, H⟩ u v
    dsimp only at hr
    rw [show k' + 3 = k' + 2 + 1 from rfl, hr, Option.bind_some, if_pos, show k' + 2 + 1 = k' + 3 from rfl, knows_eq]
    · rfl
    · obtain rfl : i = W := by omega
      rcases hN with ⟨rfl, h1⟩ | ⟨h0, ⟨a, b, ha, hb1, hbh, hab, hd1⟩, h2⟩
      · rw [if_neg]
        rintro ⟨_, hp, _⟩
        unfold Pos at hp
        dsimp only at hp
        exact h1 0 0 (by omega) (by omega) (by omega) (by omega)
      · have hc : Rt n ⟨X, Y, i, H⟩ ∧ Pos ⟨X, Y, i, H⟩ ∧ (0 ≤ u ∧ u < n ∧ 0 ≤ v ∧ v < n) := by
          refine ⟨?_, ?_, by omega⟩
          · unfold Rt
            dsimp only
            omega
          · unfold Pos
            dsimp only
            omega
        rw [if_pos hc]
        obtain ⟨⟨p, p1, p2, p3⟩, px⟩ := od_min (n := n) (q := u) (lo := X) (hi := X + i) (by omega) hu hX (by omega) (by omega)
        obtain ⟨⟨q, q1, q2, q3⟩, qx⟩ := od_min (n := n) (q := v) (lo := Y) (hi := Y + H) (by omega) hv hY (by omega) (by omega)
        have g1 := h2 (p - X) (q - Y) (by omega) (by omega) (by omega) (by omega)
        have g2 := px (X + a) (by omega) (by omega)
        have g3 := qx (Y + b) (by omega) (by omega)
        dsimp only at g1 hd1
        rw [show X + (p - X) = p by omega, show Y + (q - Y) = q by omega] at g1
        omega
  | succ j ih =>
    intro best i hi hij hN
    obtain ⟨k0, h0⟩ := dists_inner hk h16 hu hv hX hY hW hH i ⟨hi, by omega⟩ (fun best' hN' => ih best' (i + 1) (by omega) (by omega) hN') H.toNat best 0 (by omega) (by omega) hN
    refine ⟨k0 + 2, fun k hk2 => ?_⟩
    obtain ⟨k', rfl⟩ : ∃ k', k = k' + 1 + 1 := ⟨k - 2, by omega⟩
    simp only [glebelaw04_WindowDists.l0]
    rw [if_pos (by omega), decide_eq_true (by omega)]
    simp only [glebelaw04_WindowDists.j1]
    rw [if_pos trivial]
    exact h0 k' (by omega)
end
theorem on4 (a : Int) : ∃ n, OkT (wrap64 (1 + Int.tmod (wrap64 (Int.tmod a 4 + 4)) 4)) n ∧ n ≤ 16 := by
  have h1 := Int.tmod_lt_of_pos a (b := 4) (by decide)
  have h2 := Int.lt_tmod_of_pos a (b := 4) (by decide)
  rw [wrap64_small (x := Int.tmod a 4 + 4) (by omega) (by omega)]
  have h3 := Int.tmod_lt_of_pos (Int.tmod a 4 + 4) (b := 4) (by decide)
  have h4 : 0 ≤ Int.tmod (Int.tmod a 4 + 4) 4 := Int.tmod_nonneg _ (by omega)
  rw [wrap64_small (by omega) (by omega)]
  generalize Int.tmod (Int.tmod a 4 + 4) 4 = z at *
  have : z = 0 ∨ z = 1 ∨ z = 2 ∨ z = 3 := by omega
  rcases this with rfl | rfl | rfl | rfl
  · exact ⟨_, okT_of ⟨by decide, by decide⟩, by decide⟩
  · exact ⟨_, okT_of ⟨by decide, by decide⟩, by decide⟩
  · exact ⟨_, okT_of ⟨by decide, by decide⟩, by decide⟩
  · exact ⟨_, okT_of ⟨by decide, by decide⟩, by decide⟩
theorem windowDists_pure : WindowDists_Pure := by
  intro a0 x y w h u v b0 b1 b2 b3 b4 b5 b6
  obtain ⟨n, hk, h16⟩ := on4 a0
  unfold glebelaw04_WindowDists.f
  generalize wrap64 (1 + Int.tmod (wrap64 (Int.tmod a0 4 + 4)) 4) = K at *
  have hb := okT_bd hk
  obtain ⟨W, H, hS, hW⟩ := some_eq hk x y w h
  rw [hS, wrap_eq hk, side_eq hk]
  simp only [Option.bind_some]
  have hu := mod_in (n := n) (by omega) u
  have hv := mod_in (n := n) (by omega) v
  obtain ⟨h1, h2, h3, h4⟩ := hW
  rw [wrap64_small (x := n - x % n) (by omega) (by omega), wrap64_small (x := n - y % n) (by omega) (by omega)]
  obtain ⟨a, ha, ha'⟩ : ∃ a, mn W (n - x % n) = a ∧ (0 ≤ a ∧ x % n + a ≤ n) := ⟨_, rfl, by unfold mn; split <;> omega⟩
  obtain ⟨b, hb2, hb'⟩ : ∃ b, mn H (n - y % n) = b ∧ (0 ≤ b ∧ y % n + b ≤ n) := ⟨_, rfl, by unfold mn; split <;> omega⟩
  rw [ha, hb2]
  obtain ⟨k0, h0⟩ := dists_outer hk h16 hu hv h1.1 h2.1 ha' hb' a.toNat (-1) 0 (by omega) (by omega) (.inl ⟨rfl, fun a b ha hb hbh => by omega⟩)
  exact ⟨k0, h0 k0 (Nat.le_refl _)⟩
end Go.Proofs.Ytnkfbkbllkdnoaa.PW
namespace Go.Proofs.Ytnkfbkbllkdnoaa.Pure
theorem WindowDists : Go.Proofs.Ytnkfbkbllkdnoaa.PW.WindowDists_Pure := Go.Proofs.Ytnkfbkbllkdnoaa.PW.windowDists_pure
end Go.Proofs.Ytnkfbkbllkdnoaa.Pure
