/- BorderTwos: the border of any two zones is what the reference says, and so is how far any cell is. -/
import Derived.Test.YtjdmnlbnaogcdaaBorderFacts
import Derived.Test.YtjdmnlbnaogcdaaRefZoneC
import Derived.Test.YtjdmnlbnaogcdaaPCx4
import Derived.Test.YtjdmnlbnaogcdaaPCx5
import Derived.Test.YtjdmnlbnaogcdaaStBorderTwos
namespace Go.Proofs.Ytjdmnlbnaogcdaa.PC
open Go.RowKit Go.Proofs.YtjdmnlbnaogcdaaW.PrintWords Go.Proofs.YtjdmnlbnaogcdaaW.PrintLast Go.Proofs.YtjdmnlbnaogcdaaW.PrintMore
set_option linter.unusedVariables false
theorem digs_take (c : Int) (j d : Nat) : (digs c (d + j)).take d = digs (c / 2 ^ j) d := by
  apply List.ext_getElem?
  intro i
  by_cases h : i < d
  · rw [List.getElem?_take_of_lt h, digs_at _ _ _ (by omega), digs_at _ _ _ h]
    rw [Int.ediv_ediv_of_nonneg (Int.le_of_lt (Int.pow_pos (by decide))), ← Int.pow_add, show j + (d - 1 - i) = d + j - 1 - i by omega]
  · rw [List.getElem?_eq_none (by rw [List.length_take, digs_len]; omega), List.getElem?_eq_none (by rw [digs_len]; omega)]
theorem digs_inj (d : Nat) : ∀ (b c : Int), 0 ≤ b → b < 2 ^ d → 0 ≤ c → c < 2 ^ d → digs b d = digs c d → b = c := by
  induction d with
  | zero => intro b c h1 h2 h3 h4 _; simp at h2 h4; omega
  | succ d ih =>
    intro b c h1 h2 h3 h4 h
    simp only [digs, List.cons.injEq] at h
    obtain ⟨e1, e2⟩ := h
    have hp : (0 : Int) < 2 ^ d := Int.pow_pos (by decide)
    rw [Int.pow_succ] at h2 h4
    have mod_digs : ∀ (x : Int), 0 ≤ x → digs x d = digs (x % 2 ^ d) d := by
      intro x hx
      apply List.ext_getElem?
      intro i
      by_cases hi : i < d
      · rw [digs_at _ _ _ hi, digs_at _ _ _ hi]
        congr 4
        have hs : (2 : Int) ^ d = 2 ^ (d - 1 - i) * (2 * 2 ^ i) := by
          rw [show (2 : Int) * 2 ^ i = 2 ^ (i + 1) by rw [Int.pow_succ]; omega, ← Int.pow_add]
          congr 1
          omega
        have hq : (0 : Int) < 2 ^ (d - 1 - i) := Int.pow_pos (by decide)
        have e : x % 2 ^ d / 2 ^ (d - 1 - i) = (x / 2 ^ (d - 1 - i)) % (2 * 2 ^ i) := by
          rw [hs]
          generalize (2 : Int) ^ (d - 1 - i) = u at *
          have v0 : (0 : Int) < 2 ^ i := Int.pow_pos (by decide)
          generalize (2 : Int) ^ i = v at *
          have := Int.emod_def x (u * (2 * v))
          rw [this, ← Int.ediv_ediv_of_nonneg (by omega : (0 : Int) ≤ u), Int.emod_def, Int.mul_assoc, show x - u * (2 * v * (x / u / (2 * v))) = x + u * (-(2 * v * (x / u / (2 * v)))) by rw [Int.mul_neg]; omega, Int.add_mul_ediv_left _ _ (by omega)]
          omega
        rw [e]
        have v0 : (0 : Int) < 2 ^ i := Int.pow_pos (by decide)
        exact (Int.emod_emod_of_dvd _ ⟨2 ^ i, rfl⟩).symm
      · rw [List.getElem?_eq_none (by rw [digs_len]; omega), List.getElem?_eq_none (by rw [digs_len]; omega)]
    rw [mod_digs b h1, mod_digs c h3] at e2
    have m1 := Int.emod_nonneg b (Int.ne_of_gt hp)
    have m2 := Int.emod_lt_of_pos b hp
    have m3 := Int.emod_nonneg c (Int.ne_of_gt hp)
    have m4 := Int.emod_lt_of_pos c hp
    have q := ih _ _ m1 m2 m3 m4 e2
    have d1 : 0 ≤ b / 2 ^ d ∧ b / 2 ^ d < 2 := ⟨Int.ediv_nonneg h1 (by omega), Int.ediv_lt_of_lt_mul hp (by omega)⟩
    have d2 : 0 ≤ c / 2 ^ d ∧ c / 2 ^ d < 2 := ⟨Int.ediv_nonneg h3 (by omega), Int.ediv_lt_of_lt_mul hp (by omega)⟩
    have e3 := congrArg UInt8.toNat e1
    rw [UInt8.toNat_ofNat', UInt8.toNat_ofNat'] at e3
    have e4 : b / 2 ^ d = c / 2 ^ d := by omega
    have b1 := Int.emod_def b (2 ^ d)
    have b2 := Int.emod_def c (2 ^ d)
    rw [e4] at b1
    omega
theorem rfine3_eq (d b : Int) : gleberef03_Fine.f d b = some (decide (PathOk 16 d b)) := by
  unfold gleberef03_Fine.f
  rw [rpright_eq]
  rfl
theorem rabove_eq (d b e c : Int) (k : Nat) : gleberef03_Above.f (k + 33) d b e c = some (decide (ab d b e c)) := by
  unfold gleberef03_Above.f
  rw [rfine3_eq, rfine3_eq]
  simp only [Option.bind_some, decide_eq_true_eq]
  by_cases h1 : PathOk 16 d b
  · rw [if_pos h1]
    by_cases h2 : PathOk 16 e c
    · rw [if_pos h2]
      by_cases h3 : d ≤ e
      · obtain ⟨_, a2, a3, a4⟩ := h1
        obtain ⟨_, b2, b3, b4⟩ := h2
        rw [if_pos h3, halves_str (by omega) b3, Option.bind_some, if_pos a2.1, if_pos (by simp [ByteArray.size, digs_len]; omega), halves_str (by omega) a3, Option.bind_some]
        congr 1
        have hx : (ByteArray.extract ⟨(digs c e.toNat).toArray⟩ 0 d.toNat).toList = (digs c e.toNat).take d.toNat := by
          rw [ByteArray.toList_eq]
          simp
        have hy : (⟨(digs b d.toNat).toArray⟩ : ByteArray).toList = digs b d.toNat := by rw [ByteArray.toList_eq]
        rw [hx, hy]
        have ht := digs_take c (e - d).toNat d.toNat
        rw [show d.toNat + (e - d).toNat = e.toNat by omega] at ht
        rw [ht]
        by_cases hd : ab d b e c
        · rw [decide_eq_true hd]
          obtain ⟨_, _, _, h⟩ := hd
          rw [h]
          exact beq_self_eq_true _
        · rw [decide_eq_false hd, beq_eq_false_iff_ne]
          intro h
          refine hd ⟨⟨by decide, a2, a3, a4⟩, ⟨by decide, b2, b3, b4⟩, h3, ?_⟩
          refine digs_inj d.toNat _ _ (Int.ediv_nonneg b3 (Int.le_of_lt (Int.pow_pos (by decide)))) ?_ a3 a4 h
          refine Int.ediv_lt_of_lt_mul (Int.pow_pos (by decide)) ?_
          rw [← Int.pow_add, show d.toNat + (e - d).toNat = e.toNat by omega]
          exact b4
      · rw [if_neg h3]
        congr 1
        exact (decide_eq_false (fun q => h3 q.2.2.1)).symm
    · rw [if_neg h2]
      congr 1
      exact (decide_eq_false (fun q => h2 q.2.1)).symm
  · rw [if_neg h1]
    congr 1
    exact (decide_eq_false (fun q => h1 q.1)).symm
theorem rmeet3_eq (d b e c : Int) (k : Nat) : gleberef03_Meet.f (k + 33) d b e c = some (decide (mt d b e c)) := by
  unfold gleberef03_Meet.f mt
  rw [rabove_eq, rabove_eq]
  simp only [Option.bind_some, decide_eq_true_eq]
  by_cases h1 : ab d b e c <;> simp [h1]
theorem sum_small {x y : Int} (hx : 0 ≤ x ∧ x ≤ 1000000) (hy : 0 ≤ y ∧ y ≤ 1000000) : wrap64 (x + y) = x + y := wrap64_small (by omega) (by omega)
theorem sd_tt {n a m b l : Int} (h1 : Sp n a m) (h2 : Sp n b l) : sd n a m b l = if cm a m b l = 0 ∧ One n a m b l then (if Two n a m b l then 2 else 1) else 0 := by
  have := cm_bd h1 h2
  unfold sd
  by_cases hc : cm a m b l = 0
  · by_cases ho : One n a m b l
    · by_cases ht : Two n a m b l <;> simp [hc, ho, ht]
    · have ht : ¬ Two n a m b l := fun q => ho (.inl q.1)
      simp [hc, ho, ht]
  · have hp : cm a m b l > 0 := by omega
    simp [hc, hp]
theorem rj1_eq {n x p0 p1 p2 p3 q0 q1 q2 q3 : Int} (hn : 2 ≤ n ∧ n ≤ 65536) (hx : 0 ≤ x ∧ x ≤ 200000) (h1 : Sp n p0 p2) (h2 : Sp n p1 p3) (h3 : Sp n q0 q2) (h4 : Sp n q1 q3) (k : Nat) :
    gleberef06_Length.j1 (k + 1) n x p0 p1 p2 p3 q0 q1 q2 q3 = some (x + sd n p1 p3 q1 q3 * cm p0 p2 q0 q2) := by
  have hc := cm_bd h1 h3
  simp only [gleberef06_Length.j1]
  rw [rtouch_eq hn h2 h4, sd_tt h2 h4]
  simp only [Option.bind_some, decide_eq_true_eq]
  by_cases h : cm p1 p3 q1 q3 = 0 ∧ One n p1 p3 q1 q3
  · rw [if_pos h, if_pos h, rcommon_eq hn.2 h1 h3, rtwice_eq hn h2 h4]
    simp only [Option.bind_some, decide_eq_true_eq]
    have hw := sum_small (x := x) (y := cm p0 p2 q0 q2) (by omega) (by omega)
    rw [hw]
    by_cases ht : Two n p1 p3 q1 q3
    · rw [if_pos ht, if_pos ht, sum_small (by omega) (by omega)]
      congr 1
      omega
    · rw [if_neg ht, if_neg ht]
      congr 1
      omega
  · rw [if_neg h, if_neg h]
    congr 1
    omega
theorem rlength_eq (K d b e c : Int) (k : Nat) : gleberef06_Length.f (k + 60) K d b e c = some (lnP K d b e c) := by
  unfold gleberef06_Length.f lnP
  by_cases h1 : PathOk K d b
  · have hk := okT_of h1.1
    have hb := okT_bd hk
    rw [show k + 60 = (k + 27) + 33 from rfl, rof_eq hk h1, Option.bind_some]
    by_cases h2 : PathOk K e c
    · rw [rof_eq hk h2, Option.bind_some]
      dsimp only
      rw [if_pos rfl, if_pos rfl, rmeet3_eq, Option.bind_some]
      show gleberef06_Length.j0 ((k + 59) + 1) _ _ _ _ _ _ _ _ _ _ = _
      simp only [gleberef06_Length.j0, decide_eq_true_eq]
      by_cases h3 : mt d b e c
      · rw [if_pos h3, if_neg (fun q => q.2.2 h3)]
      · rw [if_neg h3, if_pos ⟨h1, h2, h3⟩]
        have z1 := zone_sp hk h1
        have z2 := zone_sp hk h2
        generalize zone (2 ^ K.toNat) d b = p at *
        generalize zone (2 ^ K.toNat) e c = q at *
        rw [show k + 59 = (k + 42) + 17 from rfl, rside_eq hk]
        generalize (2 : Int) ^ K.toNat = n at *
        have hn : 2 ≤ n ∧ n ≤ 65536 := ⟨hb.2.2.1, hb.2.2.2.1⟩
        have hc := cm_bd z1.2 z2.2
        rw [Option.bind_some, rtouch_eq hn z1.1 z2.1]
        unfold ln
        rw [sd_tt z1.1 z2.1]
        simp only [Option.bind_some, decide_eq_true_eq]
        by_cases h : cm p.f0 p.f2 q.f0 q.f2 = 0 ∧ One n p.f0 p.f2 q.f0 q.f2
        · rw [if_pos h, if_pos h, rcommon_eq hn.2 z1.2 z2.2, rtwice_eq hn z1.1 z2.1]
          simp only [Option.bind_some, decide_eq_true_eq]
          have hw := sum_small (x := 0) (y := cm p.f1 p.f3 q.f1 q.f3) (by omega) (by omega)
          rw [hw]
          by_cases ht : Two n p.f0 p.f2 q.f0 q.f2
          · rw [if_pos ht, if_pos ht, sum_small (by omega) (by omega), rj1_eq hn (by omega) z1.1 z1.2 z2.1 z2.2]
            congr 1
            omega
          · rw [if_neg ht, if_neg ht, rj1_eq hn (by omega) z1.1 z1.2 z2.1 z2.2]
            congr 1
            omega
        · rw [if_neg h, if_neg h, rj1_eq hn (by omega) z1.1 z1.2 z2.1 z2.2]
          congr 1
          omega
    · rw [rof_no h2, Option.bind_some, if_neg (c := _ ∧ _) (fun q => h2 q.2.1)]
      rfl
  · rw [rof_no h1, Option.bind_some, if_neg (c := _ ∧ _) (fun q => h1 q.1)]
    by_cases h2 : PathOk K e c
    · rw [show k + 60 = (k + 27) + 33 from rfl, rof_eq (okT_of h2.1) h2, Option.bind_some]
      rfl
    · rw [rof_no h2, Option.bind_some]
      rfl
theorem borderTwos_pure : BorderTwos_Pure := by
  intro K d b e c x y _ _ _ _ _ _ _
  refine ⟨100, ?_⟩
  unfold glebelaw06_BorderTwos.f
  rw [show (100 : Nat) = 98 + 2 from rfl, length_eq, show 98 + 2 = 40 + 60 from rfl, rlength_eq, Option.bind_some, Option.bind_some, if_pos rfl, show 40 + 60 = 98 + 2 from rfl, beside_eq, Option.bind_some]
  unfold gleberef06_Beside.f
  rw [show 98 + 2 = 40 + 60 from rfl, rlength_eq, Option.bind_some, Option.bind_some, if_pos (by simp)]
  by_cases h : PathOk K d b
  · have hk := okT_of h.1
    rw [show 40 + 60 = 99 + 1 from rfl, apart_yes hk h]
    obtain ⟨v, v1, v2⟩ := dists_same K (zone (2 ^ K.toNat) d b) x y 80
    have up : ∀ j, window_Dist.f (80 + 1 + j) K (zone (2 ^ K.toNat) d b).f0 (zone (2 ^ K.toNat) d b).f1 (zone (2 ^ K.toNat) d b).f2 (zone (2 ^ K.toNat) d b).f3 x y = some v := fun j => by
      induction j with
      | zero => exact v1
      | succ j ih => exact window_Dist.mono _ _ _ _ _ _ _ _ _ ih
    rw [show 99 + 1 = 80 + 1 + 19 from rfl, up 19, Option.bind_some]
    unfold gleberef06_Apart.f
    rw [show 80 + 1 + 19 = 67 + 33 from rfl, rof_eq hk h, Option.bind_some]
    dsimp only
    rw [if_pos rfl, show 67 + 33 = 80 + 20 from rfl, v2, Option.bind_some, Option.bind_some, if_pos rfl, show 80 + 20 = 98 + 2 from rfl, knows6_eq]
    rfl
  · rw [apart_nop h, Option.bind_some]
    unfold gleberef06_Apart.f
    rw [rof_no h, Option.bind_some]
    dsimp only
    rw [if_neg (by decide), Option.bind_some, if_pos rfl, show 40 + 60 = 98 + 2 from rfl, knows6_eq]
    rfl
end Go.Proofs.Ytjdmnlbnaogcdaa.PC
namespace Go.Proofs.Ytjdmnlbnaogcdaa.Pure
theorem BorderTwos : Go.Proofs.Ytjdmnlbnaogcdaa.PC.BorderTwos_Pure := Go.Proofs.Ytjdmnlbnaogcdaa.PC.borderTwos_pure
end Go.Proofs.Ytjdmnlbnaogcdaa.Pure
