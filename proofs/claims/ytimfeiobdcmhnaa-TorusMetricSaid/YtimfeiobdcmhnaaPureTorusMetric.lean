/- Distances on the torus: 0 just of the same cell, the same both ways, no way round is shorter, and they stay when both cells are moved. -/
import Derived.Test.YtimfeiobdcmhnaaTorusOn
import Derived.Test.YtimfeiobdcmhnaaStTorusMetric
namespace Go.Proofs.Ytimfeiobdcmhnaa.Pure
open Go.RowKit Go.Proofs.Ytimfeiobdcmhnaa.PT Go.Proofs.YtimfeiobdcmhnaaW.PrintWords Go.Proofs.YtimfeiobdcmhnaaW.PrintLast Go.Proofs.YtimfeiobdcmhnaaW.PrintMore
theorem move_eq {K n x y dx dy : Int} (h : OkT K n) (hx : 0 ≤ x ∧ x < n) (hy : 0 ≤ y ∧ y < n) (h1 : -1000 < dx ∧ dx < 1000) (h2 : -1000 < dy ∧ dy < 1000) :
    torus_Torus_Move.f K x y dx dy = some ((x + dx) % n, (y + dy) % n, 0) := by
  have hd := okT_bd h
  unfold torus_Torus_Move.f
  rw [has_yes h hx hy]
  simp only [Option.bind_some, if_true]
  rw [if_neg (by unfold mn; split <;> omega), if_neg (by unfold mx; split <;> omega), wrap64_small (by omega) (by omega), wrap64_small (by omega) (by omega), wrap_eq h]
  rfl
theorem TorusMetric : TorusMetric_Pure := by
  intro a0 a1 a2 b1 b2 c1 c2 dx dy _ _ _ _ _ _ _ _ _
  obtain ⟨K, n, hon, h, _⟩ := on_eq a0
  have hd := okT_bd h
  have hn : 2 ≤ n := hd.2.2.1
  refine ⟨9, ?_⟩
  unfold glebelaw02_TorusMetric.f
  rw [hon]
  simp only [Option.bind_some]
  rw [at_eq h, at_eq h, at_eq h]
  simp only [Option.bind_some]
  have ha := mod_in hn a1
  have hb := mod_in hn a2
  have hc := mod_in hn b1
  have hd' := mod_in hn b2
  have he := mod_in hn c1
  have hf := mod_in hn c2
  generalize a1 % n = x at *
  generalize a2 % n = y at *
  generalize b1 % n = u at *
  generalize b2 % n = v at *
  generalize c1 % n = s at *
  generalize c2 % n = t at *
  rw [has_yes h ha hb, has_yes h hc hd', knows_eq 6]
  simp only [Option.bind_some, if_true, Bool.not_true, glebelaw02_TorusMetric.j0]
  rw [if_neg (by decide), dist_eq h 6 ha hb hc hd', side_eq h, dist_eq h 6 hc hd' ha hb, dist_eq h 6 ha hb he hf, dist_eq h 6 hc hd' he hf]
  simp only [Option.bind_some]
  have p1 := ap_bd (n := n) (a := x) (b := u) hn
  have p2 := ap_bd (n := n) (a := y) (b := v) hn
  have p3 := ap_bd (n := n) (a := u) (b := s) hn
  have p4 := ap_bd (n := n) (a := v) (b := t) hn
  have z1 := ap_zero hn ha hc
  have z2 := ap_zero hn hb hd'
  have s1 := ap_symm hn ha hc
  have s2 := ap_symm hn hb hd'
  have t1 := ap_tri hn ha hc he
  have t2 := ap_tri hn hb hd' hf
  rw [if_neg (by omega), if_neg (by omega), if_neg, if_pos (by omega), wrap64_small (x := ap n x u + ap n y v + (ap n u s + ap n v t)) (by omega) (by omega)]
  · rw [decide_eq_false (by omega)]
    simp only [glebelaw02_TorusMetric.j1]
    have q1 : -1000 < Int.tmod dx 1000 ∧ Int.tmod dx 1000 < 1000 := ⟨Int.lt_tmod_of_pos dx (by decide), Int.tmod_lt_of_pos dx (by decide)⟩
    have q2 : -1000 < Int.tmod dy 1000 ∧ Int.tmod dy 1000 < 1000 := ⟨Int.lt_tmod_of_pos dy (by decide), Int.tmod_lt_of_pos dy (by decide)⟩
    rw [if_neg (by decide), move_eq h ha hb q1 q2, move_eq h hc hd' q1 q2]
    simp only [Option.bind_some, glebelaw02_num.f]
    rw [if_pos (by rw [wrap64_small (by decide) (by decide)]; rfl), dist_eq h 5 (mod_in hn _) (mod_in hn _) (mod_in hn _) (mod_in hn _), ap_move, ap_move]
    simp
  · by_cases hh : x = u ∧ y = v
    · have e0 : ap n x u + ap n y v = 0 := by
        have := z1.2 hh.1
        have := z2.2 hh.2
        omega
      rw [e0, hh.1, hh.2]
      simp
    · have e0 : ap n x u + ap n y v ≠ 0 := by
        intro e
        exact hh ⟨z1.1 (by omega), z2.1 (by omega)⟩
      have e1 : (x == u && y == v) = false := by
        rw [Bool.and_eq_false_iff, beq_eq_false_iff_ne, beq_eq_false_iff_ne]
        omega
      rw [e1, beq_eq_false_iff_ne.2 e0]
      decide
end Go.Proofs.Ytimfeiobdcmhnaa.Pure
