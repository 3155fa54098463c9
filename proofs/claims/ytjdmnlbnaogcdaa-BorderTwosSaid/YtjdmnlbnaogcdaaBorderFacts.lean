/- What the border's functions answer: how long two spans lie together, on how many ends they touch, when two paths meet. -/
import Derived.Test.YtjdmnlbnaogcdaaZoneC
import Derived.Test.YtjdmnlbnaogcdaaPCx1
import Derived.Test.YtjdmnlbnaogcdaaPCx3
namespace Go.Proofs.Ytjdmnlbnaogcdaa.PC
open Go.RowKit Go.Proofs.YtjdmnlbnaogcdaaW.PrintWords Go.Proofs.YtjdmnlbnaogcdaaW.PrintLast Go.Proofs.YtjdmnlbnaogcdaaW.PrintMore
set_option linter.unusedVariables false
/-- How many numbers two spans have together. -/
def cm (a m b l : Int) : Int := mx 0 (mn (a + m) (b + l) - mx a b)
/-- On how many ends two spans that have nothing together lie beside each other. -/
def Two (n a m b l : Int) : Prop := (a + m) % n = b ∧ (b + l) % n = a ∧ (m > 1 ∨ l > 1)
instance (n a m b l : Int) : Decidable (Two n a m b l) := by unfold Two; exact inferInstance
def One (n a m b l : Int) : Prop := (a + m) % n = b ∨ (b + l) % n = a
instance (n a m b l : Int) : Decidable (One n a m b l) := by unfold One; exact inferInstance
def sd (n a m b l : Int) : Int := if cm a m b l > 0 then 0 else if Two n a m b l then 2 else if One n a m b l then 1 else 0
def Sp (n a m : Int) : Prop := 0 ≤ a ∧ 0 < m ∧ a + m ≤ n
theorem cm_bd {n a m b l : Int} (h1 : Sp n a m) (h2 : Sp n b l) : 0 ≤ cm a m b l ∧ cm a m b l ≤ n := by
  unfold Sp at *
  unfold cm mx mn
  (repeat' split) <;> omega
theorem sd_bd (n a m b l : Int) : 0 ≤ sd n a m b l ∧ sd n a m b l ≤ 2 := by
  unfold sd
  (repeat' split) <;> omega
theorem bcommon_eq {n a m b l : Int} (hn : n ≤ 65536) (h1 : Sp n a m) (h2 : Sp n b l) : border_span_common.f a m b l = some (cm a m b l) := by
  unfold Sp at *
  unfold border_span_common.f
  rw [wrap64_small (x := a + m) (by omega) (by omega), wrap64_small (x := b + l) (by omega) (by omega)]
  have q1 := mn_bd (a := a + m) (b := b + l) (l := 0) (h := 65536) (by omega) (by omega)
  have q2 := mx_bd (a := a) (b := b) (l := 0) (h := 65536) (by omega) (by omega)
  rw [wrap64_small (by omega) (by omega)]
  rfl
theorem bsides_eq {n a m b l : Int} (hn : 2 ≤ n ∧ n ≤ 65536) (h1 : Sp n a m) (h2 : Sp n b l) (k : Nat) : border_span_sides.f (k + 1) a m b l n = some (sd n a m b l) := by
  have h1' := h1
  have h2' := h2
  unfold Sp at h1' h2'
  unfold border_span_sides.f sd
  rw [bcommon_eq hn.2 h1 h2, Option.bind_some]
  by_cases hc : cm a m b l > 0
  · rw [if_pos hc, if_pos hc]
  · rw [if_neg hc, if_neg hc, if_neg (by omega), wrap64_small (x := a + m) (by omega) (by omega), wrap64_small (x := b + l) (by omega) (by omega), Int.tmod_eq_emod_of_nonneg (by omega), Int.tmod_eq_emod_of_nonneg (by omega)]
    rfl
theorem rcommon_eq {n a m b l : Int} (hn : n ≤ 65536) (h1 : Sp n a m) (h2 : Sp n b l) : gleberef06_common.f a m b l = some (cm a m b l) := by
  unfold Sp at *
  unfold gleberef06_common.f
  rw [wrap64_small (x := a + m) (by omega) (by omega), wrap64_small (x := b + l) (by omega) (by omega)]
  have q1 := mn_bd (a := a + m) (b := b + l) (l := 0) (h := 65536) (by omega) (by omega)
  have q2 := mx_bd (a := a) (b := b) (l := 0) (h := 65536) (by omega) (by omega)
  rw [wrap64_small (by omega) (by omega)]
  rfl
theorem rnext_eq {n a m b : Int} (hn : 2 ≤ n ∧ n ≤ 65536) (h1 : Sp n a m) : gleberef06_next.f n a m b = some (decide ((a + m) % n = b)) := by
  unfold Sp at *
  unfold gleberef06_next.f
  rw [if_neg (by omega), wrap64_small (x := a + m) (by omega) (by omega), Int.tmod_eq_emod_of_nonneg (by omega)]
  congr 1
theorem rtouch_eq {n a m b l : Int} (hn : 2 ≤ n ∧ n ≤ 65536) (h1 : Sp n a m) (h2 : Sp n b l) : gleberef06_touch.f n a m b l = some (decide (cm a m b l = 0 ∧ One n a m b l)) := by
  unfold gleberef06_touch.f One
  rw [rcommon_eq hn.2 h1 h2, rnext_eq hn h1, rnext_eq hn h2]
  simp only [Option.bind_some, decide_eq_true_eq]
  by_cases hc : cm a m b l = 0 <;> by_cases h3 : (a + m) % n = b <;> simp [hc, h3]
theorem rtwice_eq {n a m b l : Int} (hn : 2 ≤ n ∧ n ≤ 65536) (h1 : Sp n a m) (h2 : Sp n b l) : gleberef06_twice.f n a m b l = some (decide (Two n a m b l)) := by
  unfold gleberef06_twice.f Two
  rw [rnext_eq hn h1, rnext_eq hn h2]
  simp only [Option.bind_some, decide_eq_true_eq]
  by_cases h3 : (a + m) % n = b <;> by_cases h4 : (b + l) % n = a <;> by_cases h5 : m > 1 <;> simp [h3, h4, h5]
/-- Does the second path begin with the first one? -/
def ab (d b e c : Int) : Prop := PathOk 16 d b ∧ PathOk 16 e c ∧ d ≤ e ∧ c / 2 ^ (e - d).toNat = b
instance (d b e c : Int) : Decidable (ab d b e c) := by unfold ab; exact inferInstance
def mt (d b e c : Int) : Prop := ab d b e c ∨ ab e c d b
instance (d b e c : Int) : Decidable (mt d b e c) := by unfold mt; exact inferInstance
theorem pfine_eq (d b : Int) : path_fine.f d b = some (decide (PathOk 16 d b)) := by
  unfold path_fine.f
  rw [pright_eq]
  rfl
theorem above_eq (d b e c : Int) : path_Above.f d b e c = some (decide (ab d b e c)) := by
  unfold path_Above.f ab path_cut.f
  rw [pfine_eq, pfine_eq]
  simp only [Option.bind_some, decide_eq_true_eq]
  by_cases h1 : PathOk 16 d b
  · rw [if_pos h1]
    by_cases h2 : PathOk 16 e c
    · rw [if_pos h2]
      by_cases h3 : d ≤ e
      · have h1' := h1.2.1
        have h2' := h2.2.1
        rw [if_pos h3, wrap64_small (by omega) (by omega), if_pos (by omega), Option.bind_some]
        unfold shr
        rw [show min (e - d).toNat IntKind.i64.bits = (e - d).toNat from Nat.min_eq_left (by show _ ≤ 64; omega)]
        simp [h1, h2, h3]
        rw [Bool.eq_iff_iff]
        simp
      · rw [if_neg h3]
        simp [h3]
    · rw [if_neg h2]
      simp [h2]
  · rw [if_neg h1]
    simp [h1]
theorem meet3_eq (d b e c : Int) : path_Meet.f d b e c = some (decide (mt d b e c)) := by
  unfold path_Meet.f mt
  rw [above_eq, above_eq]
  simp only [Option.bind_some, decide_eq_true_eq]
  by_cases h1 : ab d b e c <;> simp [h1]
theorem ok16 {K d b : Int} (h : PathOk K d b) : PathOk 16 d b := by
  obtain ⟨h1, h2, h3⟩ := h
  exact ⟨by decide, by omega, h3⟩
/-- A zone's rectangle as two spans. -/
theorem zone_sp {K n d b : Int} (hk : OkT K n) (h : PathOk K d b) : Sp n (zone n d b).f0 (zone n d b).f2 ∧ Sp n (zone n d b).f1 (zone n d b).f3 := by
  have h1 := zone_ok hk h
  unfold Pos Rt at h1
  unfold Sp
  omega
/-- How long the border of two zones is. -/
def ln (n : Int) (p q : R4) : Int := sd n p.f0 p.f2 q.f0 q.f2 * cm p.f1 p.f3 q.f1 q.f3 + sd n p.f1 p.f3 q.f1 q.f3 * cm p.f0 p.f2 q.f0 q.f2
theorem mul_small {a b n : Int} (ha : 0 ≤ a ∧ a ≤ 2) (hb : 0 ≤ b ∧ b ≤ n) : 0 ≤ a * b ∧ a * b ≤ 2 * n := by
  have : a = 0 ∨ a = 1 ∨ a = 2 := by omega
  rcases this with rfl | rfl | rfl <;> omega
theorem wrap_sum {x y : Int} (hx : 0 ≤ x ∧ x ≤ 131072) (hy : 0 ≤ y ∧ y ≤ 131072) : wrap64 (wrap64 x + wrap64 y) = x + y := by
  rw [wrap64_small (x := x) (by omega) (by omega), wrap64_small (x := y) (by omega) (by omega), wrap64_small (by omega) (by omega)]
theorem spans_yes {K n d b : Int} (hk : OkT K n) (h : PathOk K d b) : border_spans.f K d b = some ((zone n d b).f0, (zone n d b).f2, (zone n d b).f1, (zone n d b).f3, true) := by
  unfold border_spans.f
  rw [of_eq hk h]
  rfl
theorem spans_no {K d b : Int} (h : ¬ PathOk K d b) : border_spans.f K d b = some (0, 0, 0, 0, false) := by
  unfold border_spans.f
  rw [of_no h]
  rfl
/-- The border of two paths. -/
def lnP (K d b e c : Int) : Int := if PathOk K d b ∧ PathOk K e c ∧ ¬ mt d b e c then ln (2 ^ K.toNat) (zone (2 ^ K.toNat) d b) (zone (2 ^ K.toNat) e c) else 0
theorem length_eq (K d b e c : Int) (k : Nat) : border_Length.f (k + 2) K d b e c = some (lnP K d b e c) := by
  unfold border_Length.f lnP
  by_cases h1 : PathOk K d b
  · have hk := okT_of h1.1
    have hb := okT_bd hk
    rw [spans_yes hk h1, Option.bind_some]
    dsimp only
    by_cases h2 : PathOk K e c
    · rw [spans_yes hk h2, Option.bind_some]
      dsimp only
      rw [if_pos rfl, if_pos rfl, meet3_eq, Option.bind_some]
      show border_Length.j0 ((k + 1) + 1) _ _ _ _ _ _ _ _ _ _ = _
      simp only [border_Length.j0, decide_eq_true_eq]
      by_cases h3 : mt d b e c
      · rw [if_pos h3, if_neg (fun q => q.2.2 h3)]
      · rw [if_neg h3, if_pos ⟨h1, h2, h3⟩]
        have z1 := zone_sp hk h1
        have z2 := zone_sp hk h2
        rw [side_eq hk, Option.bind_some, bsides_eq ⟨hb.2.2.1, hb.2.2.2.1⟩ z1.1 z2.1, bcommon_eq hb.2.2.2.1 z1.2 z2.2]
        simp only [Option.bind_some]
        rw [bsides_eq ⟨hb.2.2.1, hb.2.2.2.1⟩ z1.2 z2.2, bcommon_eq hb.2.2.2.1 z1.1 z2.1]
        simp only [Option.bind_some]
        have c1 := mul_small (sd_bd (2 ^ K.toNat) (zone (2 ^ K.toNat) d b).f0 (zone (2 ^ K.toNat) d b).f2 (zone (2 ^ K.toNat) e c).f0 (zone (2 ^ K.toNat) e c).f2) (cm_bd z1.2 z2.2)
        have c2 := mul_small (sd_bd (2 ^ K.toNat) (zone (2 ^ K.toNat) d b).f1 (zone (2 ^ K.toNat) d b).f3 (zone (2 ^ K.toNat) e c).f1 (zone (2 ^ K.toNat) e c).f3) (cm_bd z1.1 z2.1)
        rw [wrap_sum (by omega) (by omega)]
        rfl
    · rw [spans_no h2, Option.bind_some, if_neg (c := _ ∧ _) (fun q => h2 q.2.1)]
      rfl
  · rw [spans_no h1, Option.bind_some, if_neg (c := _ ∧ _) (fun q => h1 q.1)]
    by_cases h2 : PathOk K e c
    · rw [spans_yes (okT_of h2.1) h2, Option.bind_some]
      rfl
    · rw [spans_no h2, Option.bind_some]
      rfl
theorem beside_eq (K d b e c : Int) (k : Nat) : border_Beside.f (k + 2) K d b e c = some (decide (lnP K d b e c > 0)) := by
  unfold border_Beside.f
  rw [length_eq]
  rfl
theorem apart_yes {K n d b : Int} (hk : OkT K n) (h : PathOk K d b) (x y : Int) (k : Nat) : border_Apart.f (k + 1) K d b x y = window_Dist.f (k + 1) K (zone n d b).f0 (zone n d b).f1 (zone n d b).f2 (zone n d b).f3 x y := by
  unfold border_Apart.f
  rw [of_eq hk h, Option.bind_some]
  dsimp only
  rw [if_pos rfl]
  cases window_Dist.f (k + 1) K (zone n d b).f0 (zone n d b).f1 (zone n d b).f2 (zone n d b).f3 x y <;> rfl
theorem apart_nop {K d b : Int} (h : ¬ PathOk K d b) (x y : Int) (k : Nat) : border_Apart.f k K d b x y = some (-1) := by
  unfold border_Apart.f
  rw [of_no h]
  rfl
theorem knows6_eq (k : Nat) : glebelaw06_knows.f (k + 2) = some true := by
  have h1 : OkT 1 2 := ⟨by decide, by decide, by decide⟩
  have p1 : PathOk 1 1 1 := by decide
  unfold glebelaw06_knows.f
  rw [length_eq, beside_eq, beside_eq, show k + 2 = (k + 1) + 1 from rfl, apart_yes h1 p1, rdist_eq h1]
  have e1 : lnP 1 1 0 1 1 = 2 := by decide +kernel
  have e2 : lnP 1 1 1 1 0 = 2 := by decide +kernel
  have e3 : lnP 1 1 0 0 0 = 0 := by decide +kernel
  rw [e1, e2, e3]
  rfl
end Go.Proofs.Ytjdmnlbnaogcdaa.PC
