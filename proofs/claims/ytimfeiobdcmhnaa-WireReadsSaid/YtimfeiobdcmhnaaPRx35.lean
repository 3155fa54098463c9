-- Written by a program of this session (wip/tools/hp.py) over the kit's print; nothing here is trusted: Lean checks it.
import Derived.Test.YtimfeiobdcmhnaaPRx0
import Derived.Test.YtimfeiobdcmhnaaPRx34
namespace Go.Proofs.Ytimfeiobdcmhnaa.PR
open Go.RowKit Go.Proofs.YtimfeiobdcmhnaaW.PrintWords Go.Proofs.YtimfeiobdcmhnaaW.PrintLast Go.Proofs.YtimfeiobdcmhnaaW.PrintMore
attribute [local go_sem] max2_int min2_int max_two min_two max_three min_three max_four min_four   -- for this text's walks alone
set_option linter.unusedVariables false
set_option linter.unusedSimpArgs false

/-! ### gleberef01_Reader_Num: function 60 -/
mutual
def gleberef01_Reader_Num.l0 : Nat → Int → Int → Int → List Int → Int → Int → Option (Int × Int × Int)
  | 0, _, _, _, _, _, _ => none
  | k + 1, x3, x4, x5, x1000, x1001, x1002 => if x5 = 8 then (some (0, x1001, 21)) else (if (wrap64 (x1001 + x5)) ≥ (x1000.length : Int) then (some (0, x1001, 20)) else (if 0 ≤ (wrap64 (x1001 + x5)) then (if (wrap64 (x1001 + x5)) < (x1000.length : Int) then (if (wrap64 (x3 + (wrap64 ((Int.tmod (wrap64 (rd x1000 (wrap64 (x1001 + x5)))) 128) * x4)))) > 9007199254740992 then (gleberef01_Reader_Num.j1 k (wrap64 (x3 + (wrap64 ((Int.tmod (wrap64 (rd x1000 (wrap64 (x1001 + x5)))) 128) * x4)))) x4 x5 (wrap64 (rd x1000 (wrap64 (x1001 + x5)))) true x1000 x1001 x1002) else (if (wrap64 (rd x1000 (wrap64 (x1001 + x5)))) = 0 then (gleberef01_Reader_Num.j1 k (wrap64 (x3 + (wrap64 ((Int.tmod (wrap64 (rd x1000 (wrap64 (x1001 + x5)))) 128) * x4)))) x4 x5 (wrap64 (rd x1000 (wrap64 (x1001 + x5)))) (decide (x5 > 0)) x1000 x1001 x1002) else (gleberef01_Reader_Num.j1 k (wrap64 (x3 + (wrap64 ((Int.tmod (wrap64 (rd x1000 (wrap64 (x1001 + x5)))) 128) * x4)))) x4 x5 (wrap64 (rd x1000 (wrap64 (x1001 + x5)))) false x1000 x1001 x1002))) else (none)) else (none)))
def gleberef01_Reader_Num.j1 : Nat → Int → Int → Int → Int → Bool → List Int → Int → Int → Option (Int × Int × Int)
  | 0, _, _, _, _, _, _, _, _ => none
  | k + 1, x3, x4, x5, x6, x62, x1000, x1001, x1002 => if x62 = true then (some (0, x1001, 21)) else (if x6 < 128 then (some (x3, wrap64 ((wrap64 (x1001 + x5)) + 1), x1002)) else (gleberef01_Reader_Num.l0 k x3 (wrap64 (x4 * 128)) (wrap64 (x5 + 1)) x1000 x1001 x1002))
end
def gleberef01_Reader_Num.f (k : Nat) (s0_0 : List Int) (s0_1 : Int) (s0_2 : Int) : Option (Int × Int × Int) := if s0_2 = 0 then (gleberef01_Reader_Num.l0 k 0 1 0 s0_0 s0_1 s0_2) else (some (0, s0_1, s0_2))
theorem gleberef01_Reader_Num.mono_l : ∀ k, (∀ y0 y1 y2 y3 y4 y5, LeO (gleberef01_Reader_Num.l0 k y0 y1 y2 y3 y4 y5) (gleberef01_Reader_Num.l0 (k + 1) y0 y1 y2 y3 y4 y5)) ∧ (∀ y0 y1 y2 y3 y4 y5 y6 y7, LeO (gleberef01_Reader_Num.j1 k y0 y1 y2 y3 y4 y5 y6 y7) (gleberef01_Reader_Num.j1 (k + 1) y0 y1 y2 y3 y4 y5 y6 y7))
  | 0 => ⟨fun _ _ _ _ _ _ r h => by simp [gleberef01_Reader_Num.l0] at h, fun _ _ _ _ _ _ _ _ r h => by simp [gleberef01_Reader_Num.j1] at h⟩
  | k + 1 => by
    obtain ⟨ih0, ih1⟩ := gleberef01_Reader_Num.mono_l k
    refine ⟨?_, ?_⟩
    · intro y0 y1 y2 y3 y4 y5
      unfold gleberef01_Reader_Num.l0
      repeat' first
      | (with_reducible exact ih0 _ _ _ _ _ _)
      | (with_reducible exact ih1 _ _ _ _ _ _ _ _)
      | (with_reducible exact LeO.refl _)
      | (with_reducible exact LeO.none _)
      | (with_reducible refine LeO.ite ?_ ?_)
      | (with_reducible refine LeO.bind ?_ (fun _ => ?_))
      | exact ih0 _ _ _ _ _ _
      | exact ih1 _ _ _ _ _ _ _ _
      | exact LeO.none _
      | refine LeO.ite ?_ ?_
      | refine LeO.bind ?_ (fun _ => ?_)
    · intro y0 y1 y2 y3 y4 y5 y6 y7
      unfold gleberef01_Reader_Num.j1
      repeat' first
      | (with_reducible exact ih0 _ _ _ _ _ _)
      | (with_reducible exact ih1 _ _ _ _ _ _ _ _)
      | (with_reducible exact LeO.refl _)
      | (with_reducible exact LeO.none _)
      | (with_reducible refine LeO.ite ?_ ?_)
      | (with_reducible refine LeO.bind ?_ (fun _ => ?_))
      | exact ih0 _ _ _ _ _ _
      | exact ih1 _ _ _ _ _ _ _ _
      | exact LeO.none _
      | refine LeO.ite ?_ ?_
      | refine LeO.bind ?_ (fun _ => ?_)
theorem gleberef01_Reader_Num.mono : ∀ a0 a1 a2 k, LeO (gleberef01_Reader_Num.f k a0 a1 a2) (gleberef01_Reader_Num.f (k + 1) a0 a1 a2) := by
  intro a0 a1 a2 k
  obtain ⟨ih0, ih1⟩ := gleberef01_Reader_Num.mono_l k
  unfold gleberef01_Reader_Num.f
  repeat' first
      | (with_reducible exact ih0 _ _ _ _ _ _)
      | (with_reducible exact ih1 _ _ _ _ _ _ _ _)
      | (with_reducible exact LeO.refl _)
      | (with_reducible exact LeO.none _)
      | (with_reducible refine LeO.ite ?_ ?_)
      | (with_reducible refine LeO.bind ?_ (fun _ => ?_))
      | exact ih0 _ _ _ _ _ _
      | exact ih1 _ _ _ _ _ _ _ _
      | exact LeO.none _
      | refine LeO.ite ?_ ?_
      | refine LeO.bind ?_ (fun _ => ?_)
set_option maxHeartbeats 8000000 in
set_option maxRecDepth 100000 in
theorem gleberef01_Reader_Num.calls (k : Nat) (g : Nat) (s0_0 : List Int) (s0_1 : Int) (s0_2 : Int) (r1 : Int) (r2 : Int) (r3 : Int) (w0 w : World) (hI : IsS94 w0 w g s0_0 s0_1 s0_2) (hB : Below w0.heap.size w0 w) (h : gleberef01_Reader_Num.f k s0_0 s0_1 s0_2 = some (r1, r2, r3)) :
    Calls Try.prog 60 #[.pointer (some ⟨g, 0, none⟩)] w fun e w' => e = .returned (.int .i64 r1) ∧ IsS94 w0 w' g s0_0 r2 r3 ∧ Below w0.heap.size w0 w' ∧ KeepBut w w' g none := by
  have HI0 := Aside0.mk hI
  have HK := Aside0.mk (KeepBut.refl w g none)
  have HL := Aside0.mk hB.size
  clear hI
  have HW0 := Aside0.mk hB.size
  have HB := Aside0.mk hB
  clear hB
  have H : (if s0_2 = 0 then (gleberef01_Reader_Num.l0 k 0 1 0 s0_0 s0_1 s0_2) else (some (0, s0_1, s0_2))) = some (r1, r2, r3) := h
  clear h
  by_cases c2 : s0_2 = 0
  · rw [if_pos c2] at H
    have c2b0 : (s0_2 == 0) = true := beq_iff_eq.mpr c2
    have c2b1 : (s0_2 != 0) = false := bne_eq_false_iff_eq.mpr c2
    clear c2
    have H' := Aside0.mk H
    clear H
    obtain ⟨ASz3_0, cSz3_0, HGz3, hgz3, HSz3_0, _⟩ := HI0.out
    have hcz3_0 := cellS94_0 HGz3
    have hcz3_1 := cellS94_1 HGz3
    have hcz3_2 := cellS94_2 HGz3
    have hfz3_1 := blk_frozen HGz3 1
    have hfz3_2 := blk_frozen HGz3 2
    clear HGz3 hgz3
    go_enter Try.func60, Try.ntmps60
    go_wp2
    repeat (go_quiet (fail); try go_wp2)
    go_loopg [3, 4, 5] k (fun kq v3 v4 v5 w' => ∃ (x3_1 : Int) (x4_1 : Int) (x5_1 : Int) (x1001_1 : Int) (x1002_1 : Int), v3 = .int .i64 x3_1 ∧ v4 = .int .i64 x4_1 ∧ v5 = .int .i64 x5_1 ∧ Aside0 (gleberef01_Reader_Num.l0 kq x3_1 x4_1 x5_1 s0_0 x1001_1 x1002_1 = some (r1, r2, r3)) ∧ Aside0 (kq ≤ k) ∧ Aside0 (IsS94 w0 w' g s0_0 x1001_1 x1002_1) ∧ Aside0 (KeepBut w w' g none) ∧ Aside0 (Below w0.heap.size w0 w'))
    case atStart => exact ⟨(0), (1), (0), (s0_1), (s0_2), (by first | rfl | (simp; done) | (simp [*]; done)), (by first | rfl | (simp; done) | (simp [*]; done)), (by first | rfl | (simp; done) | (simp [*]; done)), H', ⟨Nat.le_refl _⟩, ⟨by repeat (first | (with_reducible first | exact HI0.out | apply IsS94.alloc | apply IsS94.drewN | apply IsS94.drew | apply IsS94.set_1 | apply IsS94.set_2) | exact HI0.out)⟩, ⟨by repeat (first | (with_reducible first | exact HK.out | apply KeepBut.set_ | apply keep_drewN | apply keep_drew | apply keep_alloc) | exact HK.out)⟩, ⟨by repeat (first | (with_reducible first | exact HB.out | apply below_alloc | apply pw_below_drewN | apply below_drew1 | refine below_set ?_ (IsS94.ge HI0.out)) | exact HB.out)⟩⟩
    case round =>
      clear H'
      try clear c2
      try clear c2b0
      try clear c2b1
      try clear p2
      try clear hcz3_0
      try clear hcz3_1
      try clear hcz3_2
      try clear hfz3_1
      try clear hfz3_2
      obtain ⟨x3_1, x4_1, x5_1, x1001_1, x1002_1, rfl, rfl, rfl, HA, HK1, HI0, HK, HB⟩ := hrel
      cases gk with
      | zero => exact absurd HA.out (by simp [gleberef01_Reader_Num.l0])
      | succ k1 =>
        have H := HA.out
        clear HA
        simp only [gleberef01_Reader_Num.l0] at H
        by_cases c4 : x5_1 = 8
        · rw [if_pos c4] at H
          have c4b0 : (x5_1 == 8) = true := beq_iff_eq.mpr c4
          have c4b1 : (x5_1 != 8) = false := bne_eq_false_iff_eq.mpr c4
          clear c4
          simp only [Option.some.injEq, Prod.mk.injEq] at H
          obtain ⟨rfl, rfl, rfl⟩ := H
          obtain ⟨ASz5_0, cSz5_0, HGz5, hgz5, HSz5_0, _⟩ := HI0.out
          have hcz5_0 := cellS94_0 HGz5
          have hcz5_1 := cellS94_1 HGz5
          have hcz5_2 := cellS94_2 HGz5
          have hfz5_1 := blk_frozen HGz5 1
          have hfz5_2 := blk_frozen HGz5 2
          clear HGz5 hgz5
          go_wp2
          repeat (go_quiet (fail); try go_wp2)
          go_ret
          exact ⟨by first | rfl | (simp [errW_none, errW_some] <;> rfl) | (simp [*, errW_none, errW_some] <;> rfl), by (try rw [hji8]); repeat (first | (with_reducible first | exact HI0.out | apply IsS94.alloc | apply IsS94.drewN | apply IsS94.drew | apply IsS94.set_1 | apply IsS94.set_2) | exact HI0.out), by repeat (first | (with_reducible first | exact HB.out | apply below_alloc | apply pw_below_drewN | apply below_drew1 | refine below_set ?_ (IsS94.ge HI0.out)) | exact HB.out), by repeat (first | (with_reducible first | exact HK.out | apply KeepBut.set_ | apply keep_drewN | apply keep_drew | apply keep_alloc) | exact HK.out)⟩
        · rw [if_neg c4] at H
          have c4b0 : (x5_1 == 8) = false := beq_eq_false_iff_ne.mpr c4
          have c4b1 : (x5_1 != 8) = true := bne_iff_ne.mpr c4
          by_cases c6 : (wrap64 (x1001_1 + x5_1)) ≥ (s0_0.length : Int)
          · rw [if_pos c6] at H
            have c6b0 : decide ((s0_0.length : Int) ≤ (wrap64 (x1001_1 + x5_1))) = true := decide_eq_true c6
            clear c6
            simp only [Option.some.injEq, Prod.mk.injEq] at H
            obtain ⟨rfl, rfl, rfl⟩ := H
            obtain ⟨ASz7_0, cSz7_0, HGz7, hgz7, HSz7_0, _⟩ := HI0.out
            have hcz7_0 := cellS94_0 HGz7
            have hcz7_1 := cellS94_1 HGz7
            have hcz7_2 := cellS94_2 HGz7
            have hfz7_1 := blk_frozen HGz7 1
            have hfz7_2 := blk_frozen HGz7 2
            clear HGz7 hgz7
            go_wp2
            repeat (go_quiet (fail); try go_wp2)
            go_ret
            exact ⟨by first | rfl | (simp [errW_none, errW_some] <;> rfl) | (simp [*, errW_none, errW_some] <;> rfl), by (try rw [hji8]); repeat (first | (with_reducible first | exact HI0.out | apply IsS94.alloc | apply IsS94.drewN | apply IsS94.drew | apply IsS94.set_1 | apply IsS94.set_2) | exact HI0.out), by repeat (first | (with_reducible first | exact HB.out | apply below_alloc | apply pw_below_drewN | apply below_drew1 | refine below_set ?_ (IsS94.ge HI0.out)) | exact HB.out), by repeat (first | (with_reducible first | exact HK.out | apply KeepBut.set_ | apply keep_drewN | apply keep_drew | apply keep_alloc) | exact HK.out)⟩
          · rw [if_neg c6] at H
            have c6b0 : decide ((s0_0.length : Int) ≤ (wrap64 (x1001_1 + x5_1))) = false := decide_eq_false c6
            clear c6
            obtain ⟨ji8, hji8⟩ : ∃ j_ : Int, (wrap64 (x1001_1 + x5_1)) = j_ := ⟨_, rfl⟩
            replace H : (if 0 ≤ (ji8) then (if (ji8) < (s0_0.length : Int) then (if (wrap64 (x3_1 + (wrap64 ((Int.tmod (wrap64 (rd s0_0 (ji8))) 128) * x4_1)))) > 9007199254740992 then (gleberef01_Reader_Num.j1 k1 (wrap64 (x3_1 + (wrap64 ((Int.tmod (wrap64 (rd s0_0 (ji8))) 128) * x4_1)))) x4_1 x5_1 (wrap64 (rd s0_0 (ji8))) true s0_0 x1001_1 x1002_1) else (if (wrap64 (rd s0_0 (ji8))) = 0 then (gleberef01_Reader_Num.j1 k1 (wrap64 (x3_1 + (wrap64 ((Int.tmod (wrap64 (rd s0_0 (ji8))) 128) * x4_1)))) x4_1 x5_1 (wrap64 (rd s0_0 (ji8))) (decide (x5_1 > 0)) s0_0 x1001_1 x1002_1) else (gleberef01_Reader_Num.j1 k1 (wrap64 (x3_1 + (wrap64 ((Int.tmod (wrap64 (rd s0_0 (ji8))) 128) * x4_1)))) x4_1 x5_1 (wrap64 (rd s0_0 (ji8))) false s0_0 x1001_1 x1002_1))) else (none)) else (none)) = some (r1, r2, r3) := by first | (rw [hji8] at H; exact H) | (simp only [hji8] at H ⊢; exact H)
            (try rw [hji8] at c6b0)
            have hji8w : (IntKind.i64.wrap (x1001_1 + x5_1)) = ji8 := (i64_w _).trans hji8
            by_cases c9 : 0 ≤ (ji8)
            · rw [if_pos c9] at H
              have c9b0 : decide (0 ≤ (ji8)) = true := decide_eq_true c9
              clear c9
              by_cases c10 : (ji8) < (s0_0.length : Int)
              · rw [if_pos c10] at H
                have c10b0 : decide ((ji8) < (s0_0.length : Int)) = true := decide_eq_true c10
                clear c10
                have HC11 := Aside0.mk H
                clear H
                obtain ⟨ASz12_0, cSz12_0, HGz12, hgz12, HSz12_0, _⟩ := HI0.out
                have hcz12_0 := cellS94_0 HGz12
                have hcz12_1 := cellS94_1 HGz12
                have hcz12_2 := cellS94_2 HGz12
                have hfz12_1 := blk_frozen HGz12 1
                have hfz12_2 := blk_frozen HGz12 2
                clear HGz12 hgz12
                have p225 : 0 ≤ ((ji8) : Int) := of_decide_eq_true (by first | (with_reducible assumption) | assumption)
                have q225 : (ji8) < (s0_0.length : Int) := of_decide_eq_true (by first | (with_reducible assumption) | assumption)
                obtain ⟨ad225, e225, hx225_0⟩ := Kd.at_int HSz12_0 (ji8) p225 q225
                cases e225
                replace hx225_0 := pw_cell_below HB.out hx225_0
                replace p225 := eq_true p225
                replace q225 := eq_true q225
                go_upto_region 15 with (fail)
                repeat (go_quiet (fail); go_upto_region 15 with (fail))
                go_cut [62] (fun v62 wc => ∃ (kq : Nat) (x62_10 : Bool), v62 = .bool x62_10 ∧ Aside0 (gleberef01_Reader_Num.j1 kq (wrap64 (x3_1 + (wrap64 ((Int.tmod (wrap64 (rd s0_0 (ji8))) 128) * x4_1)))) x4_1 x5_1 (wrap64 (rd s0_0 (ji8))) x62_10 s0_0 x1001_1 x1002_1 = some (r1, r2, r3)) ∧ Aside0 (kq ≤ k1) ∧ Aside0 (IsS94 w0 wc g s0_0 x1001_1 x1002_1) ∧ Aside0 (KeepBut w wc g none) ∧ Aside0 (Below w0.heap.size w0 wc))
                case first =>
                  have H := HC11.out
                  clear HC11
                  by_cases c13 : (wrap64 (x3_1 + (wrap64 ((Int.tmod (wrap64 (rd s0_0 (ji8))) 128) * x4_1)))) > 9007199254740992
                  · rw [if_pos c13] at H
                    have c13b0 : decide (9007199254740992 < (wrap64 (x3_1 + (wrap64 ((Int.tmod (wrap64 (rd s0_0 (ji8))) 128) * x4_1))))) = true := decide_eq_true c13
                    clear c13
                    (first | rw [c13b0] | (simp only [i64_w, i32_w]; rw [c13b0]) | skip)
                    have H' := Aside0.mk H
                    clear H
                    go_wp2
                    repeat (go_quiet (fail); try go_wp2)
                    go_meet
                    case rel => exact ⟨_, (true), (by first | rfl | (simp; done) | (simp [*]; done)), H', ⟨by have := HK1.out; first | omega | exact Nat.le_refl _⟩, ⟨by repeat (first | (with_reducible first | exact HI0.out | apply IsS94.alloc | apply IsS94.drewN | apply IsS94.drew | apply IsS94.set_1 | apply IsS94.set_2) | exact HI0.out)⟩, ⟨by repeat (first | (with_reducible first | exact HK.out | apply KeepBut.set_ | apply keep_drewN | apply keep_drew | apply keep_alloc) | exact HK.out)⟩, ⟨by repeat (first | (with_reducible first | exact HB.out | apply below_alloc | apply pw_below_drewN | apply below_drew1 | refine below_set ?_ (IsS94.ge HI0.out)) | exact HB.out)⟩⟩
                  · rw [if_neg c13] at H
                    have c13b0 : decide (9007199254740992 < (wrap64 (x3_1 + (wrap64 ((Int.tmod (wrap64 (rd s0_0 (ji8))) 128) * x4_1))))) = false := decide_eq_false c13
                    clear c13
                    (first | rw [c13b0] | (simp only [i64_w, i32_w]; rw [c13b0]) | skip)
                    by_cases c14 : (wrap64 (rd s0_0 (ji8))) = 0
                    · rw [if_pos c14] at H
                      have c14b0 : ((wrap64 (rd s0_0 (ji8))) == 0) = true := beq_iff_eq.mpr c14
                      have c14b1 : ((wrap64 (rd s0_0 (ji8))) != 0) = false := bne_eq_false_iff_eq.mpr c14
                      clear c14
                      have H' := Aside0.mk H
                      clear H
                      go_wp2
                      repeat (go_quiet (fail); try go_wp2)
                      go_meet
                      case rel => exact ⟨_, (decide (x5_1 > 0)), (by first | rfl | (simp; done) | (simp [*]; done)), H', ⟨by have := HK1.out; first | omega | exact Nat.le_refl _⟩, ⟨by repeat (first | (with_reducible first | exact HI0.out | apply IsS94.alloc | apply IsS94.drewN | apply IsS94.drew | apply IsS94.set_1 | apply IsS94.set_2) | exact HI0.out)⟩, ⟨by repeat (first | (with_reducible first | exact HK.out | apply KeepBut.set_ | apply keep_drewN | apply keep_drew | apply keep_alloc) | exact HK.out)⟩, ⟨by repeat (first | (with_reducible first | exact HB.out | apply below_alloc | apply pw_below_drewN | apply below_drew1 | refine below_set ?_ (IsS94.ge HI0.out)) | exact HB.out)⟩⟩
                    · rw [if_neg c14] at H
                      have c14b0 : ((wrap64 (rd s0_0 (ji8))) == 0) = false := beq_eq_false_iff_ne.mpr c14
                      have c14b1 : ((wrap64 (rd s0_0 (ji8))) != 0) = true := bne_iff_ne.mpr c14
                      have H' := Aside0.mk H
                      clear H
                      go_wp2
                      repeat (go_quiet (fail); try go_wp2)
                      go_meet
                      case rel => exact ⟨_, (false), (by first | rfl | (simp; done) | (simp [*]; done)), H', ⟨by have := HK1.out; first | omega | exact Nat.le_refl _⟩, ⟨by repeat (first | (with_reducible first | exact HI0.out | apply IsS94.alloc | apply IsS94.drewN | apply IsS94.drew | apply IsS94.set_1 | apply IsS94.set_2) | exact HI0.out)⟩, ⟨by repeat (first | (with_reducible first | exact HK.out | apply KeepBut.set_ | apply keep_drewN | apply keep_drew | apply keep_alloc) | exact HK.out)⟩, ⟨by repeat (first | (with_reducible first | exact HB.out | apply below_alloc | apply pw_below_drewN | apply below_drew1 | refine below_set ?_ (IsS94.ge HI0.out)) | exact HB.out)⟩⟩
                case rest =>
                  clear HC11
                  try clear c1
                  try clear c2
                  try clear c2b0
                  try clear c2b1
                  try clear p2
                  try clear q2
                  try clear hx2
                  try clear c4
                  try clear c4b0
                  try clear c4b1
                  try clear c6
                  try clear c6b0
                  try clear p6
                  try clear c9
                  try clear c9b0
                  try clear c10
                  try clear c10b0
                  try clear c13
                  try clear c13b0
                  try clear c14
                  try clear c14b0
                  try clear c14b1
                  try clear hcz12_0
                  try clear hcz12_1
                  try clear hcz12_2
                  try clear hcz3_0
                  try clear hcz3_1
                  try clear hcz3_2
                  try clear hcz5_0
                  try clear hcz5_1
                  try clear hcz5_2
                  try clear hcz7_0
                  try clear hcz7_1
                  try clear hcz7_2
                  try clear hfz12_1
                  try clear hfz12_2
                  try clear hfz3_1
                  try clear hfz3_2
                  try clear hfz5_1
                  try clear hfz5_2
                  try clear hfz7_1
                  try clear hfz7_2
                  try clear hx225_0
                  try clear p2
                  try clear p225
                  try clear q225
                  obtain ⟨kq, x62_10, rfl, HA, HJ10, HI0, HK, HB⟩ := hcut
                  cases kq with
                  | zero => exact absurd HA.out (by simp [gleberef01_Reader_Num.j1])
                  | succ kj10 =>
                    have H := HA.out
                    clear HA
                    simp only [gleberef01_Reader_Num.j1] at H
                    by_cases c15 : x62_10 = true
                    · subst c15
                      have H1 : (some (0, x1001_1, 21)) = some (r1, r2, r3) := by rw [if_pos rfl] at H; exact H
                      clear H
                      have H := H1
                      clear H1
                      simp only [Option.some.injEq, Prod.mk.injEq] at H
                      obtain ⟨rfl, rfl, rfl⟩ := H
                      obtain ⟨ASz16_0, cSz16_0, HGz16, hgz16, HSz16_0, _⟩ := HI0.out
                      have hcz16_0 := cellS94_0 HGz16
                      have hcz16_1 := cellS94_1 HGz16
                      have hcz16_2 := cellS94_2 HGz16
                      have hfz16_1 := blk_frozen HGz16 1
                      have hfz16_2 := blk_frozen HGz16 2
                      clear HGz16 hgz16
                      go_wp2
                      repeat (go_quiet (fail); try go_wp2)
                      go_ret
                      exact ⟨by first | rfl | (simp [errW_none, errW_some] <;> rfl) | (simp only [← hji8]; first | rfl | (simp [errW_none, errW_some] <;> rfl)) | (simp [*, errW_none, errW_some] <;> rfl), by (try rw [hji8]); repeat (first | (with_reducible first | exact HI0.out | apply IsS94.alloc | apply IsS94.drewN | apply IsS94.drew | apply IsS94.set_1 | apply IsS94.set_2) | exact HI0.out), by repeat (first | (with_reducible first | exact HB.out | apply below_alloc | apply pw_below_drewN | apply below_drew1 | refine below_set ?_ (IsS94.ge HI0.out)) | exact HB.out), by repeat (first | (with_reducible first | exact HK.out | apply KeepBut.set_ | apply keep_drewN | apply keep_drew | apply keep_alloc) | exact HK.out)⟩
                    · replace c15 := Bool.eq_false_iff.mpr c15
                      subst c15
                      have H1 : (if (wrap64 (rd s0_0 (ji8))) < 128 then (some ((wrap64 (x3_1 + (wrap64 ((Int.tmod (wrap64 (rd s0_0 (ji8))) 128) * x4_1)))), wrap64 ((wrap64 (x1001_1 + x5_1)) + 1), x1002_1)) else (gleberef01_Reader_Num.l0 kj10 (wrap64 (x3_1 + (wrap64 ((Int.tmod (wrap64 (rd s0_0 (ji8))) 128) * x4_1)))) (wrap64 (x4_1 * 128)) (wrap64 (x5_1 + 1)) s0_0 x1001_1 x1002_1)) = some (r1, r2, r3) := by rw [if_neg (show ¬ (false = true) by decide)] at H; exact H
                      clear H
                      have H := H1
                      clear H1
                      by_cases c17 : (wrap64 (rd s0_0 (ji8))) < 128
                      · rw [if_pos c17] at H
                        have c17b0 : decide ((wrap64 (rd s0_0 (ji8))) < 128) = true := decide_eq_true c17
                        clear c17
                        simp only [Option.some.injEq, Prod.mk.injEq] at H
                        obtain ⟨rfl, rfl, rfl⟩ := H
                        obtain ⟨ASz18_0, cSz18_0, HGz18, hgz18, HSz18_0, _⟩ := HI0.out
                        have hcz18_0 := cellS94_0 HGz18
                        have hcz18_1 := cellS94_1 HGz18
                        have hcz18_2 := cellS94_2 HGz18
                        have hfz18_1 := blk_frozen HGz18 1
                        have hfz18_2 := blk_frozen HGz18 2
                        clear HGz18 hgz18
                        go_wp2
                        repeat (go_quiet (fail); try go_wp2)
                        go_ret
                        exact ⟨by first | rfl | (simp [errW_none, errW_some] <;> rfl) | (simp only [← hji8]; first | rfl | (simp [errW_none, errW_some] <;> rfl)) | (simp [*, errW_none, errW_some] <;> rfl), by (try rw [hji8]); repeat (first | (with_reducible first | exact HI0.out | apply IsS94.alloc | apply IsS94.drewN | apply IsS94.drew | apply IsS94.set_1 | apply IsS94.set_2) | exact HI0.out), by repeat (first | (with_reducible first | exact HB.out | apply below_alloc | apply pw_below_drewN | apply below_drew1 | refine below_set ?_ (IsS94.ge HI0.out)) | exact HB.out), by repeat (first | (with_reducible first | exact HK.out | apply KeepBut.set_ | apply keep_drewN | apply keep_drew | apply keep_alloc) | exact HK.out)⟩
                      · rw [if_neg c17] at H
                        have c17b0 : decide ((wrap64 (rd s0_0 (ji8))) < 128) = false := decide_eq_false c17
                        clear c17
                        have H' := Aside0.mk H
                        clear H
                        go_wp2
                        repeat (go_quiet (fail); try go_wp2)
                        go_roundg kj10
                        case measure => have := HK1.out; have := HJ10.out; omega
                        case rel => exact ⟨((wrap64 (x3_1 + (wrap64 ((Int.tmod (wrap64 (rd s0_0 (ji8))) 128) * x4_1))))), (wrap64 (x4_1 * 128)), (wrap64 (x5_1 + 1)), (x1001_1), (x1002_1), (by first | rfl | (simp; done) | (simp only [← hji8] <;> (first | rfl | simp)) | (simp [*]; done)), (by first | rfl | (simp; done) | (simp [*]; done)), (by first | rfl | (simp; done) | (simp [*]; done)), H', ⟨by have := HK1.out; have := HJ10.out; omega⟩, ⟨by repeat (first | (with_reducible first | exact HI0.out | apply IsS94.alloc | apply IsS94.drewN | apply IsS94.drew | apply IsS94.set_1 | apply IsS94.set_2) | exact HI0.out)⟩, ⟨by repeat (first | (with_reducible first | exact HK.out | apply KeepBut.set_ | apply keep_drewN | apply keep_drew | apply keep_alloc) | exact HK.out)⟩, ⟨by repeat (first | (with_reducible first | exact HB.out | apply below_alloc | apply pw_below_drewN | apply below_drew1 | refine below_set ?_ (IsS94.ge HI0.out)) | exact HB.out)⟩⟩
              · rw [if_neg c10] at H
                exact absurd H (by simp)
            · rw [if_neg c9] at H
              exact absurd H (by simp)
  · rw [if_neg c2] at H
    have c2b0 : (s0_2 == 0) = false := beq_eq_false_iff_ne.mpr c2
    have c2b1 : (s0_2 != 0) = true := bne_iff_ne.mpr c2
    simp only [Option.some.injEq, Prod.mk.injEq] at H
    obtain ⟨rfl, rfl, rfl⟩ := H
    obtain ⟨ASz19_0, cSz19_0, HGz19, hgz19, HSz19_0, _⟩ := HI0.out
    have hcz19_0 := cellS94_0 HGz19
    have hcz19_1 := cellS94_1 HGz19
    have hcz19_2 := cellS94_2 HGz19
    have hfz19_1 := blk_frozen HGz19 1
    have hfz19_2 := blk_frozen HGz19 2
    clear HGz19 hgz19
    go_enter Try.func60, Try.ntmps60
    go_wp2
    repeat (go_quiet (fail); try go_wp2)
    go_ret
    exact ⟨by first | rfl | (simp [errW_none, errW_some] <;> rfl) | (simp [*, errW_none, errW_some] <;> rfl), by (try rw [hji8]); repeat (first | (with_reducible first | exact HI0.out | apply IsS94.alloc | apply IsS94.drewN | apply IsS94.drew | apply IsS94.set_1 | apply IsS94.set_2) | exact HI0.out), by repeat (first | (with_reducible first | exact HB.out | apply below_alloc | apply pw_below_drewN | apply below_drew1 | refine below_set ?_ (IsS94.ge HI0.out)) | exact HB.out), by repeat (first | (with_reducible first | exact HK.out | apply KeepBut.set_ | apply keep_drewN | apply keep_drew | apply keep_alloc) | exact HK.out)⟩

end Go.Proofs.Ytimfeiobdcmhnaa.PR
