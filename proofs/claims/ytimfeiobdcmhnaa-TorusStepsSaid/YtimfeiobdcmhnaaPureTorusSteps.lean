/- Steps by Toward come to the other cell in as many as the distance, each to a cell beside. -/
import Derived.Test.YtimfeiobdcmhnaaTorusOn
import Derived.Test.YtimfeiobdcmhnaaStTorusSteps
namespace Go.Proofs.Ytimfeiobdcmhnaa.Pure
open Go.RowKit Go.Proofs.Ytimfeiobdcmhnaa.PT Go.Proofs.YtimfeiobdcmhnaaW.PrintWords Go.Proofs.YtimfeiobdcmhnaaW.PrintLast Go.Proofs.YtimfeiobdcmhnaaW.PrintMore
theorem steps_loop {K n u v : Int} (h : OkT K n) (hu : 0 ≤ u ∧ u < n) (hv : 0 ≤ v ∧ v < n) : ∀ (m : Nat) (k : Nat) (i x y : Int), 0 ≤ x ∧ x < n → 0 ≤ y ∧ y < n → ap n x u + ap n y v = m → 0 ≤ i → i + m ≤ 600 → 2 * m + 6 ≤ k →
    glebelaw02_TorusSteps.l0 k m i x y u v K = some true := by
  have hd := okT_bd h
  have hn : 2 ≤ n := hd.2.2.1
  intro m
  induction m with
  | zero =>
    intro k i x y hx hy he hi hm hk
    have p1 := ap_bd (n := n) (a := x) (b := u) hn
    have p2 := ap_bd (n := n) (a := y) (b := v) hn
    obtain rfl : x = u := (ap_zero hn hx hu).1 (by omega)
    obtain rfl : y = v := (ap_zero hn hy hv).1 (by omega)
    obtain ⟨k, rfl⟩ : ∃ q, k = q + 4 := ⟨k - 4, by omega⟩
    have hj : ∀ b : Bool, b = false → glebelaw02_TorusSteps.j1 (k + 3) 0 i b x y x y K = some true := by
      rintro _ rfl
      simp only [glebelaw02_TorusSteps.j1]
      rw [if_neg (by decide), toward_eq h (k + 1) hx hy hx hy]
      simp
    simp only [glebelaw02_TorusSteps.l0]
    split
    · exact hj _ (by simp)
    · exact hj _ rfl
  | succ m ih =>
    intro k i x y hx hy he hi hm hk
    obtain ⟨k, rfl⟩ : ∃ q, k = q + 5 := ⟨k - 5, by omega⟩
    have hm1 : ((m + 1 : Nat) : Int) = (m : Int) + 1 := by omega
    rw [hm1]
    have p1 := ap_bd (n := n) (a := x) (b := u) hn
    have p2 := ap_bd (n := n) (a := y) (b := v) hn
    simp only [glebelaw02_TorusSteps.l0]
    rw [if_pos (by omega), decide_eq_true (by omega)]
    simp only [glebelaw02_TorusSteps.j1, if_true]
    rw [toward_eq h (k + 2) hx hy hu hv]
    have hne : ¬ (x = u ∧ y = v) := by
      rintro ⟨rfl, rfl⟩
      have z1 := (ap_zero hn hx hx).2 rfl
      have z2 := (ap_zero hn hy hy).2 rfl
      omega
    rw [if_neg hne]
    by_cases hxu : x = u
    · have hyv : y ≠ v := fun e => hne ⟨hxu, e⟩
      rw [if_pos hxu]
      simp only [Option.bind_some, if_true]
      obtain ⟨s1, s2⟩ := ap_stp hn hd.2.2.2.2 hy hv hyv
      have hs := stp_in (n := n) (a := y) (b := v) hn
      have z1 := (ap_zero hn hx hx).2 rfl
      rw [dist_eq h (k + 1) hx hy hx hs, dist_eq h (k + 1) hx hs hu hv]
      simp only [Option.bind_some]
      rw [if_pos (by omega), wrap64_small (by omega) (by omega), wrap64_small (by omega) (by omega), if_pos (by omega), show (m : Int) + 1 - 1 = m by omega]
      exact ih (k + 3) (i + 1) x _ hx hs (by omega) (by omega) (by omega) (by omega)
    · rw [if_neg hxu]
      simp only [Option.bind_some, if_true]
      obtain ⟨s1, s2⟩ := ap_stp hn hd.2.2.2.2 hx hu hxu
      have hs := stp_in (n := n) (a := x) (b := u) hn
      have z1 := (ap_zero hn hy hy).2 rfl
      rw [dist_eq h (k + 1) hx hy hs hy, dist_eq h (k + 1) hs hy hu hv]
      simp only [Option.bind_some]
      rw [if_pos (by omega), wrap64_small (by omega) (by omega), wrap64_small (by omega) (by omega), if_pos (by omega), show (m : Int) + 1 - 1 = m by omega]
      exact ih (k + 3) (i + 1) _ y hs hy (by omega) (by omega) (by omega) (by omega)
theorem TorusSteps : TorusSteps_Pure := by
  intro a0 a1 a2 b1 b2 _ _ _ _ _
  have h8 := pos_mod (a := a0) (m := 8) (by decide) (by decide)
  obtain ⟨K, n, hon, h, hK⟩ := on_eq (Int.tmod (wrap64 (Int.tmod a0 8 + 8)) 8)
  have hd := okT_bd h
  have hn : 2 ≤ n := hd.2.2.1
  have hK8 : K ≤ 8 := by
    generalize Int.tmod (wrap64 (Int.tmod a0 8 + 8)) 8 = r at *
    have h1 : Int.tmod r 16 = r := Int.tmod_eq_of_lt (by omega) (by omega)
    have h2 : Int.tmod (r + 16) 16 = r := by
      rw [Int.tmod_eq_emod_of_nonneg (by omega)]
      omega
    rw [h1, wrap64_small (by omega) (by omega), h2] at hK
    omega
  have hn256 : n ≤ 256 := by
    rcases okT_cases h with ⟨rfl, rfl⟩ | ⟨rfl, rfl⟩ | ⟨rfl, rfl⟩ | ⟨rfl, rfl⟩ | ⟨rfl, rfl⟩ | ⟨rfl, rfl⟩ | ⟨rfl, rfl⟩ | ⟨rfl, rfl⟩ | ⟨rfl, rfl⟩ | ⟨rfl, rfl⟩ | ⟨rfl, rfl⟩ | ⟨rfl, rfl⟩ | ⟨rfl, rfl⟩ | ⟨rfl, rfl⟩ | ⟨rfl, rfl⟩ | ⟨rfl, rfl⟩ <;> omega
  refine ⟨1300, ?_⟩
  unfold glebelaw02_TorusSteps.f
  rw [hon]
  simp only [Option.bind_some]
  rw [at_eq h, at_eq h, knows_eq 1297]
  simp only [Option.bind_some, if_true]
  have ha := mod_in hn a1
  have hb := mod_in hn a2
  have hc := mod_in hn b1
  have he := mod_in hn b2
  rw [dist_eq h 1298 ha hb hc he]
  simp only [Option.bind_some]
  have p1 := ap_bd (n := n) (a := a1 % n) (b := b1 % n) hn
  have p2 := ap_bd (n := n) (a := a2 % n) (b := b2 % n) hn
  obtain ⟨m, hm⟩ : ∃ m : Nat, ap n (a1 % n) (b1 % n) + ap n (a2 % n) (b2 % n) = m := ⟨(ap n (a1 % n) (b1 % n) + ap n (a2 % n) (b2 % n)).toNat, by omega⟩
  rw [hm]
  exact steps_loop h hc he m 1300 0 _ _ ha hb hm (by omega) (by omega) (by omega)
end Go.Proofs.Ytimfeiobdcmhnaa.Pure
