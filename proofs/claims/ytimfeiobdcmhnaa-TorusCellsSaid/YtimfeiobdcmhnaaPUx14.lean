-- Written by a program of this session (wip/tools/hp.py) over the kit's print; nothing here is trusted: Lean checks it.
import Derived.Test.YtimfeiobdcmhnaaPUx0
import Derived.Test.YtimfeiobdcmhnaaPUx3
import Derived.Test.YtimfeiobdcmhnaaPUx4
import Derived.Test.YtimfeiobdcmhnaaPUx6
namespace Go.Proofs.Ytimfeiobdcmhnaa.PU
open Go.RowKit Go.Proofs.YtimfeiobdcmhnaaW.PrintWords Go.Proofs.YtimfeiobdcmhnaaW.PrintLast Go.Proofs.YtimfeiobdcmhnaaW.PrintMore
attribute [local go_sem] max2_int min2_int max_two min_two max_three min_three max_four min_four   -- for this text's walks alone
set_option linter.unusedVariables false
set_option linter.unusedSimpArgs false

/-! ### torus_Torus_Ring: function 34 -/
def ringWidth (half n : Int) : Int := if n = 0 ∨ n = half then 1 else 2
def ringSum (half d : Int) : Nat → Int
  | 0 => 0
  | i + 1 => ringSum half d i + (if 0 ≤ d - i ∧ d - i ≤ half then ringWidth half i * ringWidth half (d - i) else 0)
def torus_Torus_Ring.f (a0_0 : Int) (a1_0 : Int) (a1_1 : Int) (a2 : Int) : Option (Int) :=
  (torus_Torus_Side.f a0_0).bind fun s => (torus_Torus_Has.f a0_0 a1_0 a1_1).bind fun b =>
    if b = true ∧ 0 ≤ a2 ∧ a2 ≤ s then some (ringSum (s / 2) a2 (s / 2 + 1).toNat) else some 0

theorem ring1_one (half n : Int) (g : Nat) (w : World) (hc : w.cell? ⟨g, 0, none⟩ = some (.int .i64 half)) (h : n = 0 ∨ n = half) :
    Calls Try.prog 74 #[.int .i64 n, .pointer (some ⟨g, 0, none⟩)] w fun e w' => e = .returned (.int .i64 1) ∧ w = w' := by
  by_cases h0 : n = 0
  · have hb : (n == 0) = true := beq_iff_eq.mpr h0
    clear h0 h
    go_enter Try.func74, Try.ntmps74
    go_wp2
    go_ret
    exact ⟨rfl, rfl⟩
  · have hb : (n == 0) = false := beq_eq_false_iff_ne.mpr h0
    have hh : (n == half) = true := by simp; omega
    clear h0 h
    go_enter Try.func74, Try.ntmps74
    go_wp2
    go_ret
    exact ⟨rfl, rfl⟩
theorem ring1_two (half n : Int) (g : Nat) (w : World) (hc : w.cell? ⟨g, 0, none⟩ = some (.int .i64 half)) (h : ¬ (n = 0 ∨ n = half)) :
    Calls Try.prog 74 #[.int .i64 n, .pointer (some ⟨g, 0, none⟩)] w fun e w' => e = .returned (.int .i64 2) ∧ w = w' := by
  have hb : (n == 0) = false := beq_eq_false_iff_ne.mpr (by omega)
  have hh : (n == half) = false := beq_eq_false_iff_ne.mpr (by omega)
  clear h
  go_enter Try.func74, Try.ntmps74
  go_wp2
  go_ret
  exact ⟨rfl, rfl⟩
theorem ring1_calls (half n : Int) (g : Nat) (w : World) (hc : w.cell? ⟨g, 0, none⟩ = some (.int .i64 half)) :
    Calls Try.prog 74 #[.int .i64 n, .pointer (some ⟨g, 0, none⟩)] w fun e w' => e = .returned (.int .i64 (ringWidth half n)) ∧ w = w' := by
  unfold ringWidth
  by_cases h : n = 0 ∨ n = half
  · rw [if_pos h]; exact ring1_one half n g w hc h
  · rw [if_neg h]; exact ring1_two half n g w hc h
theorem ringWidth_le (half n : Int) : 1 ≤ ringWidth half n ∧ ringWidth half n ≤ 2 := by unfold ringWidth; split <;> omega
theorem ringSum_le (half d : Int) (i : Nat) : 0 ≤ ringSum half d i ∧ ringSum half d i ≤ 4 * i := by
  induction i with
  | zero => simp [ringSum]
  | succ i ih =>
    simp only [ringSum]
    have h1 := ringWidth_le half i
    have h2 := ringWidth_le half (d - i)
    have h3 : 0 ≤ ringWidth half i * ringWidth half (d - i) := Int.mul_nonneg (by omega) (by omega)
    have h4 : ringWidth half i * ringWidth half (d - i) ≤ 2 * 2 := Int.mul_le_mul h1.2 h2.2 (by omega) (by omega)
    split <;> omega

theorem ring_bcell {W w1 : World} (hb : Below W.heap.size W w1) : (∀ b o, b < W.heap.size → w1.cell? ⟨b, o, none⟩ = W.cell? ⟨b, o, none⟩) ∧ (∀ b o, b < W.heap.size → w1.frozen? ⟨b, o, none⟩ = W.frozen? ⟨b, o, none⟩) :=
  ⟨fun b o h => hb.cell (p := ⟨b, o, none⟩) h, fun b o h => hb.frozen (p := ⟨b, o, none⟩) h⟩
theorem side_pos {k s : Int} (h : torus_Torus_Side.f k = some s) : 0 ≤ s ∧ s ≤ 65536 := by
  unfold torus_Torus_Side.f torus_Torus_ok.f at h
  by_cases h1 : k ≥ 1
  · by_cases h2 : k ≤ 16
    · have : k = 1 ∨ k = 2 ∨ k = 3 ∨ k = 4 ∨ k = 5 ∨ k = 6 ∨ k = 7 ∨ k = 8 ∨ k = 9 ∨ k = 10 ∨ k = 11 ∨ k = 12 ∨ k = 13 ∨ k = 14 ∨ k = 15 ∨ k = 16 := by omega
      rcases this with rfl | rfl | rfl | rfl | rfl | rfl | rfl | rfl | rfl | rfl | rfl | rfl | rfl | rfl | rfl | rfl <;> (simp at h; subst h; decide)
    · simp [h1, h2] at h; omega
  · simp [h1] at h; omega
set_option maxHeartbeats 1000000 in
set_option maxRecDepth 100000 in
theorem torus_Torus_Ring.calls (a0_0 : Int) (a1_0 : Int) (a1_1 : Int) (a2 : Int) (r : Int) (w : World) (h : torus_Torus_Ring.f a0_0 a1_0 a1_1 a2 = some r) :
    Calls Try.prog 34 #[.agg #[.int .i64 a0_0], .agg #[.int .i64 a1_0, .int .i64 a1_1], .int .i64 a2] w fun e w' => e = .returned (.int .i64 r) ∧ Below w.heap.size w w' := by
  obtain ⟨s, hs, h⟩ := Option.bind_eq_some_iff.mp h
  obtain ⟨b, hb, h⟩ := Option.bind_eq_some_iff.mp h
  have hsp := side_pos hs
  have hs0 := hsp.1
  have hs1 := hsp.2
  clear hsp
  have Hs := Aside0.mk hs
  have Hb := Aside0.mk hb
  have Hh := Aside0.mk h
  clear hs hb h
  go_enter Try.func34, Try.ntmps34
  go_wp2_with fail
  refine (torus_Torus_Side.calls _ _ _ Hs.out).mono ?_
  rintro e w1 ⟨rfl, hb1⟩
  have hz1 : w.heap.size < w1.heap.size := by have := hb1.size; simp at this; omega
  have hz1b : w.heap.size + 1 < w1.heap.size := by have := hb1.size; simp at this; omega
  have c1 : w1.cell? ⟨w.heap.size, 0, none⟩ = some (.int .i64 a0_0) := by rw [(ring_bcell hb1).1 _ _ (by simp; omega)]; go_simp
  have c2 : w1.cell? ⟨w.heap.size + 1, 0, none⟩ = some (.int .i64 a1_0) := by rw [(ring_bcell hb1).1 _ _ (by simp)]; go_simp
  have c3 : w1.cell? ⟨w.heap.size + 1, 1, none⟩ = some (.int .i64 a1_1) := by rw [(ring_bcell hb1).1 _ _ (by simp)]; go_simp
  have HB1 := Aside0.mk hb1
  clear hb1
  go_wp2_with fail
  refine (torus_Torus_Has.calls _ _ _ _ _ Hb.out).mono ?_
  rintro e w2 ⟨rfl, hb2⟩
  have hz2 : w.heap.size < w2.heap.size := by have := hb2.size; simp at this; omega
  have hz2b : w1.heap.size < w2.heap.size := by have := hb2.size; simp at this; omega
  have d1 : w2.cell? ⟨w.heap.size, 0, none⟩ = some (.int .i64 a0_0) := by rw [(ring_bcell hb2).1 _ _ (by simp; omega)]; go_simp
  have d2 : w2.cell? ⟨w1.heap.size, 0, none⟩ = some (.int .i64 (s / 2)) := by rw [(ring_bcell hb2).1 _ _ (by simp)]; go_simp
  have HB2 := Aside0.mk (below_step (below_alloc (below_step (below_alloc (below_alloc (Below.refl _ w) _) _) HB1.out) (.cells #[.int .i64 (s / 2)] 3)) hb2)
  clear hb2
  cases b with
  | false =>
    have hr : r = 0 := by have := Hh.out; simp at this; exact this.symm
    subst hr
    go_wp2
    go_ret
    exact ⟨rfl, HB2.out⟩
  | true =>
    by_cases h0 : a2 < 0
    · have hr : r = 0 := by have := Hh.out; rw [if_neg (by omega)] at this; simp at this; exact this.symm
      subst hr
      go_wp2
      go_ret
      exact ⟨rfl, HB2.out⟩
    · have h0' : decide (a2 < 0) = false := by simpa using h0
      go_wp2_with fail
      refine (torus_Torus_Side.calls _ _ _ Hs.out).mono ?_
      rintro e w3 ⟨rfl, hb3⟩
      have e2 : w3.cell? ⟨w1.heap.size, 0, none⟩ = some (.int .i64 (s / 2)) := by rw [(ring_bcell hb3).1 _ _ hz2b]; exact d2
      have HB3 := Aside0.mk (below_step HB2.out hb3)
      clear hb3 d1 d2 c1 c2 c3
      by_cases h1 : s < a2
      · have hr : r = 0 := by have := Hh.out; rw [if_neg (by omega)] at this; simp at this; exact this.symm
        subst hr
        go_wp2
        go_ret
        exact ⟨rfl, HB3.out⟩
      · have h1' : decide (s < a2) = false := by simpa using h1
        have hr : r = ringSum (s / 2) a2 (s / 2 + 1).toNat := by have := Hh.out; rw [if_pos (by simp; omega)] at this; simp at this; exact this.symm
        have Hr := Aside0.mk hr
        clear hr Hs Hb Hh
        go_wp2
        have hh0 : 0 ≤ s / 2 := by omega
        have hh1 : s / 2 ≤ 32768 := by omega
        generalize s / 2 = half at *
        go_loop [9, 32] (fun c i => ∃ k : Nat, (k : Int) ≤ half + 1 ∧ i = .int .i64 k ∧ c = .int .i64 (ringSum half a2 k)) (fun _ i => (half + 1 - intOf i).toNat)
        case atStart => exact ⟨0, by omega, rfl, rfl⟩
        case round =>
          obtain ⟨k, hk, rfl, rfl⟩ := hrel
          have hsl := (ringSum_le half a2 k).1
          have hsu := (ringSum_le half a2 k).2
          by_cases hlt : (k : Int) < half + 1
          · by_cases hin0 : 0 ≤ a2 - k
            · by_cases hin1 : a2 - k ≤ half
              · have hw1 := (ringWidth_le half k).1
                have hw2 := (ringWidth_le half k).2
                have hw3 := (ringWidth_le half (a2 - k)).1
                have hw4 := (ringWidth_le half (a2 - k)).2
                have hp0 : 0 ≤ ringWidth half k * ringWidth half (a2 - k) := Int.mul_nonneg (by omega) (by omega)
                have hp4 : ringWidth half k * ringWidth half (a2 - k) ≤ 2 * 2 := Int.mul_le_mul hw2 hw4 (by omega) (by omega)
                have HS := Aside0.mk (show ringSum half a2 (k + 1) = ringSum half a2 k + ringWidth half k * ringWidth half (a2 - k) by simp only [ringSum]; rw [if_pos ⟨hin0, hin1⟩])
                go_wp2_with (go_at_call 74; refine (ring1_calls half _ _ _ e2).mono ?_; rintro e w' ⟨rfl, rfl⟩)
                go_round
                case rel => exact ⟨k + 1, by omega, by go_num, by rw [HS.out]⟩
                case measure => simp [intOf]; omega
              · have HS := Aside0.mk (show ringSum half a2 (k + 1) = ringSum half a2 k by simp only [ringSum]; rw [if_neg (by omega)]; omega)
                go_wp2
                go_round
                case rel => exact ⟨k + 1, by omega, by go_num, by rw [HS.out]⟩
                case measure => simp [intOf]; omega
            · have HS := Aside0.mk (show ringSum half a2 (k + 1) = ringSum half a2 k by simp only [ringSum]; rw [if_neg (by omega)]; omega)
              have hd : decide (0 ≤ a2 - (k : Int)) = false := by simpa using hin0
              go_wp2
              go_round
              case rel => exact ⟨k + 1, by omega, by go_num, by rw [HS.out]⟩
              case measure => simp [intOf]; omega
          · have hk' : k = (half + 1).toNat := by omega
            have HK := Aside0.mk hk'
            clear hk'
            go_wp2
            go_ret
            exact ⟨by rw [Hr.out, ← HK.out]; rfl, HB3.out⟩

end Go.Proofs.Ytimfeiobdcmhnaa.PU
