/- BorderChildren: a zone's two halves are beside each other; what is beside a half, and does not meet the zone, is beside the zone. -/
import Derived.Test.YtjdmnlbnaogcdaaZoneMeet
import Derived.Test.YtjdmnlbnaogcdaaPCx6
import Derived.Test.YtjdmnlbnaogcdaaStBorderChildren
namespace Go.Proofs.Ytjdmnlbnaogcdaa.PC
open Go.RowKit Go.Proofs.YtjdmnlbnaogcdaaW.PrintWords Go.Proofs.YtjdmnlbnaogcdaaW.PrintLast Go.Proofs.YtjdmnlbnaogcdaaW.PrintMore
set_option linter.unusedVariables false
theorem on16 (a : Int) : ∃ n, OkT (wrap64 (1 + Int.tmod (wrap64 (Int.tmod a 16 + 16)) 16)) n := by
  have h1 := Int.tmod_lt_of_pos a (b := 16) (by decide)
  have h2 := Int.lt_tmod_of_pos a (b := 16) (by decide)
  rw [wrap64_small (x := Int.tmod a 16 + 16) (by omega) (by omega)]
  have h3 := Int.tmod_lt_of_pos (Int.tmod a 16 + 16) (b := 16) (by decide)
  have h4 : 0 ≤ Int.tmod (Int.tmod a 16 + 16) 16 := Int.tmod_nonneg _ (by omega)
  rw [wrap64_small (by omega) (by omega)]
  exact ⟨_, okT_of ⟨by omega, by omega⟩⟩
/-- Do two spans touch, end to end? -/
def To (n a m b l : Int) : Prop := (b + l ≤ a ∨ a + m ≤ b) ∧ (a + m = b ∨ (a + m = n ∧ b = 0) ∨ b + l = a ∨ (b + l = n ∧ a = 0))
def Co (a m b l : Int) : Prop := a < b + l ∧ b < a + m
theorem cm_pos {n a m b l : Int} (h1 : Sp n a m) (h2 : Sp n b l) : cm a m b l > 0 ↔ Co a m b l := by
  unfold Sp at *
  unfold cm mx mn Co
  (repeat' split) <;> omega
theorem mod_end {n e b : Int} (h1 : 0 < e) (h2 : e ≤ n) (hb : 0 ≤ b) : e % n = b ↔ (e = b ∧ e < n) ∨ (e = n ∧ b = 0) := by
  by_cases h : e = n
  · subst h
    rw [Int.emod_self]
    omega
  · rw [Int.emod_eq_of_lt (by omega) (by omega)]
    omega
theorem sd_pos {n a m b l : Int} (h1 : Sp n a m) (h2 : Sp n b l) : sd n a m b l > 0 ↔ To n a m b l := by
  have hc := cm_pos h1 h2
  have h1' := h1
  have h2' := h2
  unfold Sp at h1' h2'
  have e1 := mod_end (n := n) (e := a + m) (b := b) (by omega) (by omega) (by omega)
  have e2 := mod_end (n := n) (e := b + l) (b := a) (by omega) (by omega) (by omega)
  unfold Co at hc
  have hO : One n a m b l ↔ (a + m = b ∨ (a + m = n ∧ b = 0) ∨ b + l = a ∨ (b + l = n ∧ a = 0)) := by
    unfold One
    rw [e1, e2]
    omega
  have hT : Two n a m b l → One n a m b l := fun q => .inl q.1
  unfold To sd
  by_cases c : cm a m b l > 0
  · rw [if_pos c]
    have := hc.mp c
    omega
  · rw [if_neg c]
    have c' : ¬ (a < b + l ∧ b < a + m) := fun q => c (hc.mpr q)
    by_cases o : One n a m b l
    · have o' := hO.mp o
      by_cases t : Two n a m b l
      · rw [if_pos t]
        omega
      · rw [if_neg t, if_pos o]
        omega
    · have o' := o
      rw [hO] at o'
      rw [if_neg (fun q => o (hT q)), if_neg o]
      omega
theorem ln_pos {n : Int} {p q : R4} (h1 : Sp n p.f0 p.f2) (h2 : Sp n p.f1 p.f3) (h3 : Sp n q.f0 q.f2) (h4 : Sp n q.f1 q.f3) :
    ln n p q > 0 ↔ (To n p.f0 p.f2 q.f0 q.f2 ∧ Co p.f1 p.f3 q.f1 q.f3) ∨ (To n p.f1 p.f3 q.f1 q.f3 ∧ Co p.f0 p.f2 q.f0 q.f2) := by
  rw [← sd_pos h1 h3, ← sd_pos h2 h4, ← cm_pos h1 h3, ← cm_pos h2 h4]
  have a1 := sd_bd n p.f0 p.f2 q.f0 q.f2
  have a2 := sd_bd n p.f1 p.f3 q.f1 q.f3
  have a3 := cm_bd h1 h3
  have a4 := cm_bd h2 h4
  unfold ln
  generalize sd n p.f0 p.f2 q.f0 q.f2 = u at *
  generalize sd n p.f1 p.f3 q.f1 q.f3 = v at *
  generalize cm p.f0 p.f2 q.f0 q.f2 = x at *
  generalize cm p.f1 p.f3 q.f1 q.f3 = y at *
  have cu : u = 0 ∨ u = 1 ∨ u = 2 := by omega
  have cv : v = 0 ∨ v = 1 ∨ v = 2 := by omega
  rcases cu with rfl | rfl | rfl <;> rcases cv with rfl | rfl | rfl <;> omega
theorem kids_span {n a m b l : Int} (h1 : 0 ≤ a ∧ 0 < m ∧ a + 2 * m ≤ n) (h2 : Sp n b l) (hd : b + l ≤ a ∨ a + 2 * m ≤ b) : (To n a m b l ∨ To n (a + m) m b l) ↔ To n a (2 * m) b l := by
  unfold Sp at h2
  unfold To
  omega
theorem kids_co {a m b l : Int} (hm : 0 < m) (hl : 0 < l) : (Co a m b l ∨ Co (a + m) m b l) ↔ Co a (2 * m) b l := by
  unfold Co
  omega
theorem kids_x {n : Int} {p a c q : R4} {m : Int} (hm : 0 < m) (h1 : Sp n p.f0 p.f2) (h2 : Sp n p.f1 p.f3) (h3 : Sp n q.f0 q.f2) (h4 : Sp n q.f1 q.f3) (hp : p.f2 = 2 * m)
    (ha : a = ⟨p.f0, p.f1, m, p.f3⟩) (hc : c = ⟨p.f0 + m, p.f1, m, p.f3⟩) (ho : ¬ Ov p q) : (ln n a q > 0 ∨ ln n c q > 0) ↔ ln n p q > 0 := by
  subst ha hc
  have h1' := h1
  unfold Sp at h1'
  rw [ln_pos h1 h2 h3 h4, ln_pos (p := ⟨p.f0, p.f1, m, p.f3⟩) (show Sp n p.f0 m by unfold Sp; omega) h2 h3 h4, ln_pos (p := ⟨p.f0 + m, p.f1, m, p.f3⟩) (show Sp n (p.f0 + m) m by unfold Sp; omega) h2 h3 h4]
  dsimp only
  have k2 := kids_co (a := p.f0) (m := m) (b := q.f0) (l := q.f2) hm (by unfold Sp at h3; omega)
  rw [← hp] at k2
  by_cases hy : Co p.f1 p.f3 q.f1 q.f3
  · have hty : ¬ To n p.f1 p.f3 q.f1 q.f3 := by
      unfold Co at hy
      unfold To
      omega
    have k1 := kids_span (n := n) (a := p.f0) (m := m) (b := q.f0) (l := q.f2) (by omega) h3 (by unfold Ov at ho; unfold Co at hy; omega)
    rw [← hp] at k1
    simp only [hy, hty, and_true, false_and, or_false]
    exact k1
  · simp only [hy, and_false, false_or]
    rw [← k2]
    constructor
    · rintro (⟨u, v⟩ | ⟨u, v⟩)
      · exact ⟨u, .inl v⟩
      · exact ⟨u, .inr v⟩
    · rintro ⟨u, v | v⟩
      · exact .inl ⟨u, v⟩
      · exact .inr ⟨u, v⟩
theorem ln_swap (n : Int) (a b c d e f g h : Int) : ln n ⟨a, b, c, d⟩ ⟨e, f, g, h⟩ = ln n ⟨b, a, d, c⟩ ⟨f, e, h, g⟩ := by
  unfold ln
  dsimp only
  omega
theorem ln_flip (n : Int) (p q : R4) : ln n p q = ln n ⟨p.f1, p.f0, p.f3, p.f2⟩ ⟨q.f1, q.f0, q.f3, q.f2⟩ := ln_swap n _ _ _ _ _ _ _ _
theorem kids_y {n : Int} {p a c q : R4} {m : Int} (hm : 0 < m) (h1 : Sp n p.f0 p.f2) (h2 : Sp n p.f1 p.f3) (h3 : Sp n q.f0 q.f2) (h4 : Sp n q.f1 q.f3) (hp : p.f3 = 2 * m)
    (ha : a = ⟨p.f0, p.f1, p.f2, m⟩) (hc : c = ⟨p.f0, p.f1 + m, p.f2, m⟩) (ho : ¬ Ov p q) : (ln n a q > 0 ∨ ln n c q > 0) ↔ ln n p q > 0 := by
  subst ha hc
  have h := kids_x (n := n) (p := ⟨p.f1, p.f0, p.f3, p.f2⟩) (q := ⟨q.f1, q.f0, q.f3, q.f2⟩) hm h2 h1 h4 h3 hp rfl rfl (by unfold Ov at *; dsimp only; omega)
  rw [ln_flip n p q, ln_flip n _ q, ln_flip n ⟨p.f0, p.f1 + m, p.f2, m⟩ q]
  exact h
theorem kids_beside {K n d b : Int} (hk : OkT K n) (hp : PathOk K d b) (hd : d < 2 * K) : ln n (zone n (d + 1) (2 * b + 0)) (zone n (d + 1) (2 * b + 1)) > 0 := by
  have z := zone_sp hk hp
  have z0 := zone_sp hk (child_ok hp hd (c := 0) (by decide))
  have z1 := zone_sp hk (child_ok hp hd (c := 1) (by decide))
  rw [ln_pos z0.1 z0.2 z1.1 z1.2]
  unfold To Co
  unfold Sp at *
  rcases zone_halves hk hp hd with ⟨m, h0, h1, h2, h3⟩ | ⟨m, h0, h1, h2, h3⟩
  · left
    rw [h2, h3] at *
    dsimp only at *
    omega
  · right
    rw [h2, h3] at *
    dsimp only at *
    omega
theorem not_mt_kids {d b c : Int} (hd : 0 ≤ d) (h : mt (d + 1) (2 * b + 0) (d + 1) (2 * b + 1)) : False := by
  unfold mt ab at h
  rw [show (d + 1 - (d + 1)).toNat = 0 by omega] at h
  simp only [Int.pow_zero, Int.ediv_one] at h
  omega
theorem mt_up {K d b c e f : Int} (hp : PathOk K d b) (hc : c = 0 ∨ c = 1) (hq : PathOk K e f) (h : mt (d + 1) (2 * b + c) e f) : mt d b e f := by
  unfold mt at *
  have h1 := hp.2.1
  rcases h with ⟨_, _, h4, h5⟩ | ⟨_, _, h4, h5⟩
  · refine .inl ⟨ok16 hp, ok16 hq, by omega, ?_⟩
    have e1 : (e - d).toNat = (e - (d + 1)).toNat + 1 := by omega
    rw [e1, Int.pow_succ, ← Int.ediv_ediv_of_nonneg (Int.le_of_lt (Int.pow_pos (by decide))), h5]
    omega
  · by_cases he : e = d + 1
    · subst he
      rw [show (d + 1 - (d + 1)).toNat = 0 by omega] at h5
      simp only [Int.pow_zero, Int.ediv_one] at h5
      refine .inl ⟨ok16 hp, ok16 hq, by omega, ?_⟩
      rw [show (d + 1 - d).toNat = 1 by omega, ← h5]
      omega
    · refine .inr ⟨ok16 hq, ok16 hp, by omega, ?_⟩
      have e1 : (d + 1 - e).toNat = (d - e).toNat + 1 := by omega
      rw [e1, Int.pow_succ, show (2 : Int) ^ (d - e).toNat * 2 = 2 * 2 ^ (d - e).toNat from Int.mul_comm _ _, ← Int.ediv_ediv_of_nonneg (by decide : (0 : Int) ≤ 2), show (2 * b + c) / 2 = b by omega] at h5
      exact h5
theorem borderChildren_pure : BorderChildren_Pure := by
  intro a0 d b e c _ _ _ _ _
  obtain ⟨n, hk⟩ := on16 a0
  unfold glebelaw06_BorderChildren.f
  generalize wrap64 (1 + Int.tmod (wrap64 (Int.tmod a0 16 + 16)) 16) = K at *
  have hb := okT_bd hk
  obtain ⟨D, B, hS, hP⟩ := some3_eq (K := K) ⟨hb.1, hb.2.1⟩ d b
  obtain ⟨E, C, hT, hQ⟩ := some3_eq (K := K) ⟨hb.1, hb.2.1⟩ e c
  rw [hS, hT]
  simp only [Option.bind_some]
  rw [wrap64_small (x := 2 * K) (by omega) (by omega)]
  refine ⟨11, ?_⟩
  by_cases hd : D = 2 * K
  · rw [if_pos hd]
    simp only [glebelaw06_BorderChildren.j0]
    rw [if_pos trivial, show (10 : Nat) = 8 + 2 from rfl, knows6_eq]
    rfl
  · rw [if_neg hd, show (11 : Nat) = 9 + 2 from rfl, knows6_eq, Option.bind_some]
    have hlt : D < 2 * K := by have := hP.2.1; omega
    have q0 := child_ok hP hlt (c := 0) (by decide)
    have q1 := child_ok hP hlt (c := 1) (by decide)
    show glebelaw06_BorderChildren.j0 (10 + 1) _ _ _ _ _ _ = _
    simp only [glebelaw06_BorderChildren.j0]
    rw [if_neg (by decide), show (10 : Nat) = 9 + 1 from rfl, child_eq hP hlt (.inl rfl), child_eq hP hlt (.inr rfl), Option.bind_some, Option.bind_some]
    dsimp only
    have hn : (2 : Int) ^ K.toNat = n := hk.2.2.symm
    have l01 : lnP K (D + 1) (2 * B + 0) (D + 1) (2 * B + 1) > 0 := by
      unfold lnP
      rw [if_pos ⟨q0, q1, fun h => not_mt_kids (c := 0) (by have := hP.2.1; omega) h⟩, hn]
      exact kids_beside hk hP hlt
    rw [show 9 + 1 = 8 + 2 from rfl, beside_eq, decide_eq_true l01, Option.bind_some, if_pos rfl, meet3_eq, Option.bind_some]
    by_cases hm : mt D B E C
    · rw [decide_eq_true hm, if_pos rfl, beside_eq, Option.bind_some]
      have : ¬ lnP K D B E C > 0 := by
        unfold lnP
        rw [if_neg (fun q => q.2.2 hm)]
        omega
      rw [decide_eq_false this]
      rfl
    · rw [decide_eq_false hm, if_neg (by decide), beside_eq, beside_eq, beside_eq]
      simp only [Option.bind_some]
      have l1 : lnP K D B E C = ln n (zone n D B) (zone n E C) := by
        unfold lnP
        rw [if_pos ⟨hP, hQ, hm⟩, hn]
      have l2 : lnP K (D + 1) (2 * B + 0) E C = ln n (zone n (D + 1) (2 * B + 0)) (zone n E C) := by
        unfold lnP
        rw [if_pos ⟨q0, hQ, fun h => hm (mt_up hP (.inl rfl) hQ h)⟩, hn]
      have l3 : lnP K (D + 1) (2 * B + 1) E C = ln n (zone n (D + 1) (2 * B + 1)) (zone n E C) := by
        unfold lnP
        rw [if_pos ⟨q1, hQ, fun h => hm (mt_up hP (.inr rfl) hQ h)⟩, hn]
      have ho : ¬ Ov (zone n D B) (zone n E C) := fun h => hm (ov_meet hk hP hQ h)
      have z := zone_sp hk hP
      have y := zone_sp hk hQ
      have key : (ln n (zone n (D + 1) (2 * B + 0)) (zone n E C) > 0 ∨ ln n (zone n (D + 1) (2 * B + 1)) (zone n E C) > 0) ↔ ln n (zone n D B) (zone n E C) > 0 := by
        rcases zone_halves hk hP hlt with ⟨m, h0, h1, h2, h3⟩ | ⟨m, h0, h1, h2, h3⟩
        · exact kids_x (m := m) (by have := z.1; unfold Sp at this; omega) z.1 z.2 y.1 y.2 h1 h2 h3 ho
        · exact kids_y (m := m) (by have := z.2; unfold Sp at this; omega) z.1 z.2 y.1 y.2 h1 h2 h3 ho
      rw [l1, l2, l3]
      by_cases c1 : ln n (zone n (D + 1) (2 * B + 0)) (zone n E C) > 0
      · rw [decide_eq_true c1, if_pos rfl, decide_eq_true (key.mp (.inl c1))]
        rfl
      · rw [decide_eq_false c1, if_neg (by decide)]
        by_cases c2 : ln n (zone n (D + 1) (2 * B + 1)) (zone n E C) > 0
        · rw [decide_eq_true c2, decide_eq_true (key.mp (.inr c2))]
          rfl
        · have c3 : ¬ ln n (zone n D B) (zone n E C) > 0 := fun q => by rcases key.mpr q with h | h <;> contradiction
          rw [decide_eq_false c2, decide_eq_false c3]
          rfl
end Go.Proofs.Ytjdmnlbnaogcdaa.PC
namespace Go.Proofs.Ytjdmnlbnaogcdaa.Pure
theorem BorderChildren : Go.Proofs.Ytjdmnlbnaogcdaa.PC.BorderChildren_Pure := Go.Proofs.Ytjdmnlbnaogcdaa.PC.borderChildren_pure
end Go.Proofs.Ytjdmnlbnaogcdaa.Pure
