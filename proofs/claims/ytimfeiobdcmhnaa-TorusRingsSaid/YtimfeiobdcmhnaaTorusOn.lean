/- What the torus' laws need of 'on', 'at', 'knows', steps and moves (plain facts on the printed functions). -/
import Derived.Test.YtimfeiobdcmhnaaTorusFacts
import Derived.Test.YtimfeiobdcmhnaaPTx4
namespace Go.Proofs.Ytimfeiobdcmhnaa.PT
open Go.RowKit Go.Proofs.YtimfeiobdcmhnaaW.PrintWords Go.Proofs.YtimfeiobdcmhnaaW.PrintLast Go.Proofs.YtimfeiobdcmhnaaW.PrintMore
theorem pos_mod {a m : Int} (hm : 0 < m) (hs : m ≤ 1048576) : 0 ≤ Int.tmod (wrap64 (Int.tmod a m + m)) m ∧ Int.tmod (wrap64 (Int.tmod a m + m)) m < m := by
  have h1 := Int.tmod_lt_of_pos a hm
  have h2 := Int.lt_tmod_of_pos a hm
  rw [wrap64_small (by omega) (by omega)]
  exact ⟨Int.tmod_nonneg _ (by omega), Int.tmod_lt_of_pos _ hm⟩
theorem on_eq (a : Int) : ∃ K n, glebelaw02_on.f a = some K ∧ OkT K n ∧ K = 1 + Int.tmod (wrap64 (Int.tmod a 16 + 16)) 16 := by
  have h := pos_mod (a := a) (m := 16) (by decide) (by decide)
  unfold glebelaw02_on.f
  rw [wrap64_small (by omega) (by omega)]
  exact ⟨_, _, rfl, okT_of ⟨by omega, by omega⟩, rfl⟩
theorem at_eq {K n : Int} (h : OkT K n) (x y : Int) : glebelaw02_at.f K x y = some (x % n, y % n) := by
  unfold glebelaw02_at.f
  rw [wrap_eq h]
  rfl
theorem ap_zero {n a b : Int} (hn : 2 ≤ n) (ha : 0 ≤ a ∧ a < n) (hb : 0 ≤ b ∧ b < n) : ap n a b = 0 ↔ a = b := by
  unfold ap mn
  rcases mod_diff (d := b - a) hn (by omega) (by omega) with ⟨h1, h2⟩ | ⟨h1, h2⟩ <;> rw [h2] <;> split <;> omega
theorem ap_symm {n a b : Int} (hn : 2 ≤ n) (ha : 0 ≤ a ∧ a < n) (hb : 0 ≤ b ∧ b < n) : ap n a b = ap n b a := by
  unfold ap mn
  rcases mod_diff (d := b - a) hn (by omega) (by omega) with ⟨h1, h2⟩ | ⟨h1, h2⟩ <;> rcases mod_diff (d := a - b) hn (by omega) (by omega) with ⟨h3, h4⟩ | ⟨h3, h4⟩ <;> rw [h2, h4] <;> split <;> split <;> omega
theorem ap_tri {n a b c : Int} (hn : 2 ≤ n) (ha : 0 ≤ a ∧ a < n) (hb : 0 ≤ b ∧ b < n) (hc : 0 ≤ c ∧ c < n) : ap n a c ≤ ap n a b + ap n b c := by
  unfold ap mn
  rcases mod_diff (d := b - a) hn (by omega) (by omega) with ⟨h1, h2⟩ | ⟨h1, h2⟩ <;> rcases mod_diff (d := c - b) hn (by omega) (by omega) with ⟨h3, h4⟩ | ⟨h3, h4⟩ <;> rcases mod_diff (d := c - a) hn (by omega) (by omega) with ⟨h5, h6⟩ | ⟨h5, h6⟩ <;> rw [h2, h4, h6] <;> split <;> split <;> split <;> omega
theorem ap_move {n a b d : Int} : ap n ((a + d) % n) ((b + d) % n) = ap n a b := by
  unfold ap
  rw [← Int.sub_emod, show b + d - (a + d) = b - a by omega]
/-- The next number on the way. -/
def stp (n a b : Int) : Int := if (b - a) % n ≤ n / 2 then (a + 1) % n else (a - 1) % n
theorem stp_in {n a b : Int} (hn : 2 ≤ n) : 0 ≤ stp n a b ∧ stp n a b < n := by
  unfold stp
  split
  · exact mod_in hn _
  · exact mod_in hn _
theorem step_eq {K n a b : Int} (h : OkT K n) (ha : 0 ≤ a ∧ a < n) (hb : 0 ≤ b ∧ b < n) : torus_Torus_step.f K a b = some (stp n a b) := by
  have hd := okT_bd h
  unfold torus_Torus_step.f
  rw [mask_eq h, side_eq h]
  simp only [Option.bind_some]
  rw [wrap64_small (by omega) (by omega), okT_mask h, wrap64_small (x := a + 1) (by omega) (by omega), wrap64_small (x := a - 1) (by omega) (by omega), okT_mask h, okT_mask h]
  have : Int.tdiv n 2 = n / 2 := Int.tdiv_eq_ediv_of_nonneg (by omega)
  rw [this, wrap64_small (by omega) (by omega)]
  unfold stp
  split <;> rfl
theorem toward_eq {K n x y u v : Int} (h : OkT K n) (k : Nat) (hx : 0 ≤ x ∧ x < n) (hy : 0 ≤ y ∧ y < n) (hu : 0 ≤ u ∧ u < n) (hv : 0 ≤ v ∧ v < n) :
    torus_Torus_Toward.f (k + 1) K x y u v = some (if x = u ∧ y = v then (x, y, false) else if x = u then (x, stp n y v, true) else (stp n x u, y, true)) := by
  unfold torus_Torus_Toward.f
  rw [has_yes h hx hy, has_yes h hu hv]
  simp only [Option.bind_some, if_true, torus_Torus_Toward.j0, Bool.not_true]
  rw [if_neg (by decide), step_eq h hx hu, step_eq h hy hv]
  simp only [Option.bind_some]
  by_cases h1 : x = u
  · by_cases h2 : y = v
    · simp [h1, h2]
    · rw [if_neg (by simp [h1, h2]), if_pos h1, if_neg (fun hh => h2 hh.2), if_pos h1]
  · rw [if_neg (by simp [h1]), if_neg h1, if_neg (fun hh => h1 hh.1), if_neg h1]
/-- One more, one less. -/
theorem inc_mod {n a : Int} (ha : 0 ≤ a ∧ a < n) : (a + 1 < n ∧ (a + 1) % n = a + 1) ∨ (a + 1 = n ∧ (a + 1) % n = 0) := by
  by_cases h : a + 1 < n
  · exact .inl ⟨h, Int.emod_eq_of_lt (by omega) h⟩
  · refine .inr ⟨by omega, ?_⟩
    rw [show a + 1 = n by omega, Int.emod_self]
theorem dec_mod {n a : Int} (ha : 0 ≤ a ∧ a < n) : (0 < a ∧ (a - 1) % n = a - 1) ∨ (a = 0 ∧ (a - 1) % n = n - 1) := by
  by_cases h : 0 < a
  · exact .inl ⟨h, Int.emod_eq_of_lt (by omega) (by omega)⟩
  · refine .inr ⟨by omega, ?_⟩
    have h1 := Int.add_emod_right (-1) n
    have h2 : (-1 + n) % n = n - 1 := by rw [show -1 + n = n - 1 by omega]; exact Int.emod_eq_of_lt (by omega) (by omega)
    rw [show a - 1 = -1 by omega, ← h1, h2]
theorem ap_abs {n a b : Int} (hn : 2 ≤ n) (ha : 0 ≤ a ∧ a < n) (hb : 0 ≤ b ∧ b < n) : ap n a b = if a ≤ b then mn (b - a) (n - (b - a)) else mn (a - b) (n - (a - b)) := by
  unfold ap mn
  rcases mod_diff (d := b - a) hn (by omega) (by omega) with ⟨h1, h2⟩ | ⟨h1, h2⟩ <;> rw [h2]
  · rw [if_pos (show a ≤ b by omega)]
  · rw [if_neg (show ¬ a ≤ b by omega)]
    split <;> split <;> omega
theorem ap_stp {n a b : Int} (hn : 2 ≤ n) (he : n % 2 = 0) (ha : 0 ≤ a ∧ a < n) (hb : 0 ≤ b ∧ b < n) (hne : a ≠ b) : ap n a (stp n a b) = 1 ∧ ap n (stp n a b) b = ap n a b - 1 := by
  have hs := stp_in (n := n) (a := a) (b := b) hn
  have hv : (stp n a b = a + 1 ∧ a + 1 < n ∨ stp n a b = 0 ∧ a + 1 = n) ∧ (b - a) % n ≤ n / 2 ∨ (stp n a b = a - 1 ∧ 0 < a ∨ stp n a b = n - 1 ∧ a = 0) ∧ ¬ (b - a) % n ≤ n / 2 := by
    unfold stp
    by_cases hc : (b - a) % n ≤ n / 2
    · rw [if_pos hc]
      rcases inc_mod ha with ⟨h3, h4⟩ | ⟨h3, h4⟩
      · exact .inl ⟨.inl ⟨h4, h3⟩, hc⟩
      · exact .inl ⟨.inr ⟨h4, h3⟩, hc⟩
    · rw [if_neg hc]
      rcases dec_mod ha with ⟨h3, h4⟩ | ⟨h3, h4⟩
      · exact .inr ⟨.inl ⟨h4, h3⟩, hc⟩
      · exact .inr ⟨.inr ⟨h4, h3⟩, hc⟩
  rw [ap_abs hn ha hs, ap_abs hn hs hb, ap_abs hn ha hb]
  generalize stp n a b = s at *
  rcases mod_diff (d := b - a) hn (by omega) (by omega) with ⟨h1, h2⟩ | ⟨h1, h2⟩ <;> rw [h2] at hv <;> clear h2 <;> unfold mn
  · rcases hv with ⟨⟨rfl, h3⟩ | ⟨rfl, h3⟩, h4⟩ | ⟨⟨rfl, h3⟩ | ⟨rfl, h3⟩, h4⟩ <;> constructor <;> (repeat' split) <;> omega
  · rcases hv with ⟨⟨rfl, h3⟩ | ⟨rfl, h3⟩, h4⟩ | ⟨⟨rfl, h3⟩ | ⟨rfl, h3⟩, h4⟩ <;> constructor <;> (repeat' split) <;> omega
theorem knows_eq (k : Nat) : glebelaw02_knows.f (k + 3) = some true := by
  have h2 : OkT 2 4 := ⟨by decide, by decide, by decide⟩
  unfold glebelaw02_knows.f
  rw [show torus_New.f 2 = some (2, 0) by decide]
  simp only [Option.bind_some]
  rw [toward_eq h2 (k + 2) (by decide) (by decide) (by decide) (by decide), side_eq h2, dist_eq h2 (k + 1) (by decide) (by decide) (by decide) (by decide)]
  simp only [Option.bind_some]
  decide
end Go.Proofs.Ytimfeiobdcmhnaa.PT
