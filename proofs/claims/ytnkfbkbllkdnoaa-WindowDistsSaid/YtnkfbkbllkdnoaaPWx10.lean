-- Written by a program of this session (wip/tools/hp.py) over the kit's print; nothing here is trusted: Lean checks it.
import Derived.Test.YtnkfbkbllkdnoaaPWx0
import Derived.Test.YtnkfbkbllkdnoaaPWx3
import Derived.Test.YtnkfbkbllkdnoaaPWx4
import Derived.Test.YtnkfbkbllkdnoaaPWx6
import Derived.Test.YtnkfbkbllkdnoaaPWx9
namespace Go.Proofs.Ytnkfbkbllkdnoaa.PW
open Go.RowKit Go.Proofs.YtnkfbkbllkdnoaaW.PrintWords Go.Proofs.YtnkfbkbllkdnoaaW.PrintLast Go.Proofs.YtnkfbkbllkdnoaaW.PrintMore
attribute [local go_sem] max2_int min2_int max_two min_two max_three min_three max_four min_four   -- for this text's walks alone
set_option linter.unusedVariables false
set_option linter.unusedSimpArgs false

/-! ### glebelaw04_WindowDists: function 3 -/
mutual
def glebelaw04_WindowDists.l0 : Nat → Int → Int → Int → Int → Int → Int → Int → Int → Int → Option (Bool)
  | 0, _, _, _, _, _, _, _, _, _ => none
  | k + 1, x9, x10, x164000, x164001, x165000, x172000, x172001, x172002, x172003 => if x10 < x172002 then (glebelaw04_WindowDists.j1 k x9 x10 (decide (x10 < 20)) x164000 x164001 x165000 x172000 x172001 x172002 x172003) else (glebelaw04_WindowDists.j1 k x9 x10 false x164000 x164001 x165000 x172000 x172001 x172002 x172003)
def glebelaw04_WindowDists.j1 : Nat → Int → Int → Bool → Int → Int → Int → Int → Int → Int → Int → Option (Bool)
  | 0, _, _, _, _, _, _, _, _, _, _ => none
  | k + 1, x9, x10, x54, x164000, x164001, x165000, x172000, x172001, x172002, x172003 => if x54 = true then (glebelaw04_WindowDists.l1 k x9 x10 0 x164000 x164001 x165000 x172000 x172001 x172002 x172003) else ((window_Dist.f k x165000 x172000 x172001 x172002 x172003 x164000 x164001).bind fun t174 => (if t174 = x9 then ((glebelaw04_knows.f k).bind fun t175 => (some t175)) else (none)))
def glebelaw04_WindowDists.l1 : Nat → Int → Int → Int → Int → Int → Int → Int → Int → Int → Int → Option (Bool)
  | 0, _, _, _, _, _, _, _, _, _, _ => none
  | k + 1, x9, x10, x11, x164000, x164001, x165000, x172000, x172001, x172002, x172003 => if x11 < x172003 then (glebelaw04_WindowDists.j3 k x9 x10 x11 (decide (x11 < 20)) x164000 x164001 x165000 x172000 x172001 x172002 x172003) else (glebelaw04_WindowDists.j3 k x9 x10 x11 false x164000 x164001 x165000 x172000 x172001 x172002 x172003)
def glebelaw04_WindowDists.j3 : Nat → Int → Int → Int → Bool → Int → Int → Int → Int → Int → Int → Int → Option (Bool)
  | 0, _, _, _, _, _, _, _, _, _, _, _ => none
  | k + 1, x9, x10, x11, x64, x164000, x164001, x165000, x172000, x172001, x172002, x172003 => if x64 = true then ((torus_Torus_Dist.f k x165000 x164000 x164001 (wrap64 (x172000 + x10)) (wrap64 (x172001 + x11))).bind fun t176 => (if x9 < 0 then (glebelaw04_WindowDists.l1 k t176 x10 (wrap64 (x11 + 1)) x164000 x164001 x165000 x172000 x172001 x172002 x172003) else (if t176 < x9 then (glebelaw04_WindowDists.l1 k t176 x10 (wrap64 (x11 + 1)) x164000 x164001 x165000 x172000 x172001 x172002 x172003) else (glebelaw04_WindowDists.l1 k x9 x10 (wrap64 (x11 + 1)) x164000 x164001 x165000 x172000 x172001 x172002 x172003)))) else (glebelaw04_WindowDists.l0 k x9 (wrap64 (x10 + 1)) x164000 x164001 x165000 x172000 x172001 x172002 x172003)
end
def glebelaw04_WindowDists.f (k : Nat) (a0 : Int) (a1_0 : Int) (a1_1 : Int) (a1_2 : Int) (a1_3 : Int) (a2_0 : Int) (a2_1 : Int) : Option (Bool) := (torus_Torus_Wrap.f (wrap64 (1 + (Int.tmod (wrap64 ((Int.tmod a0 4) + 4)) 4))) a2_0 a2_1).bind fun bt165 => ((glebelaw04_Some.f (wrap64 (1 + (Int.tmod (wrap64 ((Int.tmod a0 4) + 4)) 4))) a1_0 a1_1 a1_2 a1_3).bind fun bt167 => ((torus_Torus_Side.f (wrap64 (1 + (Int.tmod (wrap64 ((Int.tmod a0 4) + 4)) 4)))).bind fun t172 => ((torus_Torus_Side.f (wrap64 (1 + (Int.tmod (wrap64 ((Int.tmod a0 4) + 4)) 4)))).bind fun t173 => (glebelaw04_WindowDists.l0 k (-1) 0 bt165.1 bt165.2 (wrap64 (1 + (Int.tmod (wrap64 ((Int.tmod a0 4) + 4)) 4))) bt167.1 bt167.2.1 (mn bt167.2.2.1 (wrap64 (t172 - bt167.1))) (mn bt167.2.2.2 (wrap64 (t173 - bt167.2.1)))))))
theorem glebelaw04_WindowDists.mono_l : ∀ k, (∀ y0 y1 y2 y3 y4 y5 y6 y7 y8, LeO (glebelaw04_WindowDists.l0 k y0 y1 y2 y3 y4 y5 y6 y7 y8) (glebelaw04_WindowDists.l0 (k + 1) y0 y1 y2 y3 y4 y5 y6 y7 y8)) ∧ (∀ y0 y1 y2 y3 y4 y5 y6 y7 y8 y9, LeO (glebelaw04_WindowDists.j1 k y0 y1 y2 y3 y4 y5 y6 y7 y8 y9) (glebelaw04_WindowDists.j1 (k + 1) y0 y1 y2 y3 y4 y5 y6 y7 y8 y9)) ∧ (∀ y0 y1 y2 y3 y4 y5 y6 y7 y8 y9, LeO (glebelaw04_WindowDists.l1 k y0 y1 y2 y3 y4 y5 y6 y7 y8 y9) (glebelaw04_WindowDists.l1 (k + 1) y0 y1 y2 y3 y4 y5 y6 y7 y8 y9)) ∧ (∀ y0 y1 y2 y3 y4 y5 y6 y7 y8 y9 y10, LeO (glebelaw04_WindowDists.j3 k y0 y1 y2 y3 y4 y5 y6 y7 y8 y9 y10) (glebelaw04_WindowDists.j3 (k + 1) y0 y1 y2 y3 y4 y5 y6 y7 y8 y9 y10))
  | 0 => ⟨fun _ _ _ _ _ _ _ _ _ r h => by simp [glebelaw04_WindowDists.l0] at h, fun _ _ _ _ _ _ _ _ _ _ r h => by simp [glebelaw04_WindowDists.j1] at h, fun _ _ _ _ _ _ _ _ _ _ r h => by simp [glebelaw04_WindowDists.l1] at h, fun _ _ _ _ _ _ _ _ _ _ _ r h => by simp [glebelaw04_WindowDists.j3] at h⟩
  | k + 1 => by
    obtain ⟨ih0, ih1, ih2, ih3⟩ := glebelaw04_WindowDists.mono_l k
    refine ⟨?_, ?_, ?_, ?_⟩
    · intro y0 y1 y2 y3 y4 y5 y6 y7 y8
      unfold glebelaw04_WindowDists.l0
      repeat' first
      | (with_reducible exact ih0 _ _ _ _ _ _ _ _ _)
      | (with_reducible exact ih1 _ _ _ _ _ _ _ _ _ _)
      | (with_reducible exact ih2 _ _ _ _ _ _ _ _ _ _)
      | (with_reducible exact ih3 _ _ _ _ _ _ _ _ _ _ _)
      | (with_reducible exact glebelaw04_knows.mono _)
      | (with_reducible exact torus_Torus_Dist.mono _ _ _ _ _ _)
      | (with_reducible exact window_Dist.mono _ _ _ _ _ _ _ _)
      | (with_reducible exact LeO.refl _)
      | (with_reducible exact LeO.none _)
      | (with_reducible refine LeO.ite ?_ ?_)
      | (with_reducible refine LeO.bind ?_ (fun _ => ?_))
      | exact ih0 _ _ _ _ _ _ _ _ _
      | exact ih1 _ _ _ _ _ _ _ _ _ _
      | exact ih2 _ _ _ _ _ _ _ _ _ _
      | exact ih3 _ _ _ _ _ _ _ _ _ _ _
      | exact glebelaw04_knows.mono _
      | exact torus_Torus_Dist.mono _ _ _ _ _ _
      | exact window_Dist.mono _ _ _ _ _ _ _ _
      | exact LeO.none _
      | refine LeO.ite ?_ ?_
      | refine LeO.bind ?_ (fun _ => ?_)
    · intro y0 y1 y2 y3 y4 y5 y6 y7 y8 y9
      unfold glebelaw04_WindowDists.j1
      repeat' first
      | (with_reducible exact ih0 _ _ _ _ _ _ _ _ _)
      | (with_reducible exact ih1 _ _ _ _ _ _ _ _ _ _)
      | (with_reducible exact ih2 _ _ _ _ _ _ _ _ _ _)
      | (with_reducible exact ih3 _ _ _ _ _ _ _ _ _ _ _)
      | (with_reducible exact glebelaw04_knows.mono _)
      | (with_reducible exact torus_Torus_Dist.mono _ _ _ _ _ _)
      | (with_reducible exact window_Dist.mono _ _ _ _ _ _ _ _)
      | (with_reducible exact LeO.refl _)
      | (with_reducible exact LeO.none _)
      | (with_reducible refine LeO.ite ?_ ?_)
      | (with_reducible refine LeO.bind ?_ (fun _ => ?_))
      | exact ih0 _ _ _ _ _ _ _ _ _
      | exact ih1 _ _ _ _ _ _ _ _ _ _
      | exact ih2 _ _ _ _ _ _ _ _ _ _
      | exact ih3 _ _ _ _ _ _ _ _ _ _ _
      | exact glebelaw04_knows.mono _
      | exact torus_Torus_Dist.mono _ _ _ _ _ _
      | exact window_Dist.mono _ _ _ _ _ _ _ _
      | exact LeO.none _
      | refine LeO.ite ?_ ?_
      | refine LeO.bind ?_ (fun _ => ?_)
    · intro y0 y1 y2 y3 y4 y5 y6 y7 y8 y9
      unfold glebelaw04_WindowDists.l1
      repeat' first
      | (with_reducible exact ih0 _ _ _ _ _ _ _ _ _)
      | (with_reducible exact ih1 _ _ _ _ _ _ _ _ _ _)
      | (with_reducible exact ih2 _ _ _ _ _ _ _ _ _ _)
      | (with_reducible exact ih3 _ _ _ _ _ _ _ _ _ _ _)
      | (with_reducible exact glebelaw04_knows.mono _)
      | (with_reducible exact torus_Torus_Dist.mono _ _ _ _ _ _)
      | (with_reducible exact window_Dist.mono _ _ _ _ _ _ _ _)
      | (with_reducible exact LeO.refl _)
      | (with_reducible exact LeO.none _)
      | (with_reducible refine LeO.ite ?_ ?_)
      | (with_reducible refine LeO.bind ?_ (fun _ => ?_))
      | exact ih0 _ _ _ _ _ _ _ _ _
      | exact ih1 _ _ _ _ _ _ _ _ _ _
      | exact ih2 _ _ _ _ _ _ _ _ _ _
      | exact ih3 _ _ _ _ _ _ _ _ _ _ _
      | exact glebelaw04_knows.mono _
      | exact torus_Torus_Dist.mono _ _ _ _ _ _
      | exact window_Dist.mono _ _ _ _ _ _ _ _
      | exact LeO.none _
      | refine LeO.ite ?_ ?_
      | refine LeO.bind ?_ (fun _ => ?_)
    · intro y0 y1 y2 y3 y4 y5 y6 y7 y8 y9 y10
      unfold glebelaw04_WindowDists.j3
      repeat' first
      | (with_reducible exact ih0 _ _ _ _ _ _ _ _ _)
      | (with_reducible exact ih1 _ _ _ _ _ _ _ _ _ _)
      | (with_reducible exact ih2 _ _ _ _ _ _ _ _ _ _)
      | (with_reducible exact ih3 _ _ _ _ _ _ _ _ _ _ _)
      | (with_reducible exact glebelaw04_knows.mono _)
      | (with_reducible exact torus_Torus_Dist.mono _ _ _ _ _ _)
      | (with_reducible exact window_Dist.mono _ _ _ _ _ _ _ _)
      | (with_reducible exact LeO.refl _)
      | (with_reducible exact LeO.none _)
      | (with_reducible refine LeO.ite ?_ ?_)
      | (with_reducible refine LeO.bind ?_ (fun _ => ?_))
      | exact ih0 _ _ _ _ _ _ _ _ _
      | exact ih1 _ _ _ _ _ _ _ _ _ _
      | exact ih2 _ _ _ _ _ _ _ _ _ _
      | exact ih3 _ _ _ _ _ _ _ _ _ _ _
      | exact glebelaw04_knows.mono _
      | exact torus_Torus_Dist.mono _ _ _ _ _ _
      | exact window_Dist.mono _ _ _ _ _ _ _ _
      | exact LeO.none _
      | refine LeO.ite ?_ ?_
      | refine LeO.bind ?_ (fun _ => ?_)
theorem glebelaw04_WindowDists.mono : ∀ a0 a1 a2 a3 a4 a5 a6 k, LeO (glebelaw04_WindowDists.f k a0 a1 a2 a3 a4 a5 a6) (glebelaw04_WindowDists.f (k + 1) a0 a1 a2 a3 a4 a5 a6) := by
  intro a0 a1 a2 a3 a4 a5 a6 k
  obtain ⟨ih0, ih1, ih2, ih3⟩ := glebelaw04_WindowDists.mono_l k
  unfold glebelaw04_WindowDists.f
  repeat' first
      | (with_reducible exact ih0 _ _ _ _ _ _ _ _ _)
      | (with_reducible exact ih1 _ _ _ _ _ _ _ _ _ _)
      | (with_reducible exact ih2 _ _ _ _ _ _ _ _ _ _)
      | (with_reducible exact ih3 _ _ _ _ _ _ _ _ _ _ _)
      | (with_reducible exact glebelaw04_knows.mono _)
      | (with_reducible exact torus_Torus_Dist.mono _ _ _ _ _ _)
      | (with_reducible exact window_Dist.mono _ _ _ _ _ _ _ _)
      | (with_reducible exact LeO.refl _)
      | (with_reducible exact LeO.none _)
      | (with_reducible refine LeO.ite ?_ ?_)
      | (with_reducible refine LeO.bind ?_ (fun _ => ?_))
      | exact ih0 _ _ _ _ _ _ _ _ _
      | exact ih1 _ _ _ _ _ _ _ _ _ _
      | exact ih2 _ _ _ _ _ _ _ _ _ _
      | exact ih3 _ _ _ _ _ _ _ _ _ _ _
      | exact glebelaw04_knows.mono _
      | exact torus_Torus_Dist.mono _ _ _ _ _ _
      | exact window_Dist.mono _ _ _ _ _ _ _ _
      | exact LeO.none _
      | refine LeO.ite ?_ ?_
      | refine LeO.bind ?_ (fun _ => ?_)
def glebelaw04_WindowDists.T5 : Bool × List (List Nat × List Nat) := (true, [([], []), ([0], [0]), ([], []), ([2], [2]), ([], []), ([4], [4]), ([3, 5], [3, 5]), ([1, 6], [1, 6]), ([0, 1, 2, 3, 4, 5, 6, 7], []), ([8, 7, 3, 0, 1, 2, 3, 4, 5, 6, 7], [7, 8])])
def glebelaw04_WindowDists.B5 : List Nat := [0, 1, 0, 4, 0, 16, 60, 127, 255, 511]
theorem glebelaw04_WindowDists.tab5 : rtab .any (opsOf Try.f3 5) = glebelaw04_WindowDists.T5 := by kernel_rfl
theorem glebelaw04_WindowDists.bits5 : waitsOk glebelaw04_WindowDists.T5.2 glebelaw04_WindowDists.B5 = true := by kernel_rfl
def glebelaw04_WindowDists.T6 : Bool × List (List Nat × List Nat) := (true, [([], []), ([0], [0]), ([], []), ([2], [2]), ([], []), ([4], [4]), ([3, 5], [3, 5]), ([1, 6], [1, 6]), ([0, 1, 2, 3, 4, 5, 6, 7], []), ([8, 7, 3, 0, 1, 2, 3, 4, 5, 6, 7], [7, 8])])
def glebelaw04_WindowDists.B6 : List Nat := [0, 1, 0, 4, 0, 16, 60, 127, 255, 511]
theorem glebelaw04_WindowDists.tab6 : rtab .any (opsOf Try.f3 6) = glebelaw04_WindowDists.T6 := by kernel_rfl
theorem glebelaw04_WindowDists.bits6 : waitsOk glebelaw04_WindowDists.T6.2 glebelaw04_WindowDists.B6 = true := by kernel_rfl
set_option maxHeartbeats 8000000 in
set_option maxRecDepth 100000 in
theorem glebelaw04_WindowDists.calls (k : Nat) (a0 : Int) (a1_0 : Int) (a1_1 : Int) (a1_2 : Int) (a1_3 : Int) (a2_0 : Int) (a2_1 : Int) (r : Bool) (w : World) (h : glebelaw04_WindowDists.f k a0 a1_0 a1_1 a1_2 a1_3 a2_0 a2_1 = some r) :
    Calls Try.prog 3 #[.int .i64 a0, .agg #[.int .i64 a1_0, .int .i64 a1_1, .int .i64 a1_2, .int .i64 a1_3], .agg #[.int .i64 a2_0, .int .i64 a2_1]] w fun e w' => e = .returned (.bool r) ∧ Below w.heap.size w w' := by
  have hu23 := Try.underlying23
  have hu25 := Try.underlying25
  have hu27 := Try.underlying27
  have hu29 := Try.underlying29
  have HB := Aside0.mk (Below.refl w.heap.size w)
  have H : ((torus_Torus_Wrap.f (wrap64 (1 + (Int.tmod (wrap64 ((Int.tmod a0 4) + 4)) 4))) a2_0 a2_1).bind fun bt165 => ((glebelaw04_Some.f (wrap64 (1 + (Int.tmod (wrap64 ((Int.tmod a0 4) + 4)) 4))) a1_0 a1_1 a1_2 a1_3).bind fun bt167 => ((torus_Torus_Side.f (wrap64 (1 + (Int.tmod (wrap64 ((Int.tmod a0 4) + 4)) 4)))).bind fun t172 => ((torus_Torus_Side.f (wrap64 (1 + (Int.tmod (wrap64 ((Int.tmod a0 4) + 4)) 4)))).bind fun t173 => (glebelaw04_WindowDists.l0 k (-1) 0 bt165.1 bt165.2 (wrap64 (1 + (Int.tmod (wrap64 ((Int.tmod a0 4) + 4)) 4))) bt167.1 bt167.2.1 (mn bt167.2.2.1 (wrap64 (t172 - bt167.1))) (mn bt167.2.2.2 (wrap64 (t173 - bt167.2.1)))))))) = some r := h
  clear h
  replace H := Option.bind_eq_some_iff.mp H
  obtain ⟨⟨t165, t166⟩, A40, H⟩ := H
  replace H : ((glebelaw04_Some.f (wrap64 (1 + (Int.tmod (wrap64 ((Int.tmod a0 4) + 4)) 4))) a1_0 a1_1 a1_2 a1_3).bind fun bt167 => ((torus_Torus_Side.f (wrap64 (1 + (Int.tmod (wrap64 ((Int.tmod a0 4) + 4)) 4)))).bind fun t172 => ((torus_Torus_Side.f (wrap64 (1 + (Int.tmod (wrap64 ((Int.tmod a0 4) + 4)) 4)))).bind fun t173 => (glebelaw04_WindowDists.l0 k (-1) 0 t165 t166 (wrap64 (1 + (Int.tmod (wrap64 ((Int.tmod a0 4) + 4)) 4))) bt167.1 bt167.2.1 (mn bt167.2.2.1 (wrap64 (t172 - bt167.1))) (mn bt167.2.2.2 (wrap64 (t173 - bt167.2.1))))))) = some r := H
  have A4 := Aside0.mk A40
  clear A40
  replace H := Option.bind_eq_some_iff.mp H
  obtain ⟨⟨t167, t168, t169, t170⟩, A50, H⟩ := H
  replace H : ((torus_Torus_Side.f (wrap64 (1 + (Int.tmod (wrap64 ((Int.tmod a0 4) + 4)) 4)))).bind fun t172 => ((torus_Torus_Side.f (wrap64 (1 + (Int.tmod (wrap64 ((Int.tmod a0 4) + 4)) 4)))).bind fun t173 => (glebelaw04_WindowDists.l0 k (-1) 0 t165 t166 (wrap64 (1 + (Int.tmod (wrap64 ((Int.tmod a0 4) + 4)) 4))) t167 t168 (mn t169 (wrap64 (t172 - t167))) (mn t170 (wrap64 (t173 - t168)))))) = some r := H
  have A5 := Aside0.mk A50
  clear A50
  replace H := Option.bind_eq_some_iff.mp H
  obtain ⟨t172, A60, H⟩ := H
  replace H : ((torus_Torus_Side.f (wrap64 (1 + (Int.tmod (wrap64 ((Int.tmod a0 4) + 4)) 4)))).bind fun t173 => (glebelaw04_WindowDists.l0 k (-1) 0 t165 t166 (wrap64 (1 + (Int.tmod (wrap64 ((Int.tmod a0 4) + 4)) 4))) t167 t168 (mn t169 (wrap64 (t172 - t167))) (mn t170 (wrap64 (t173 - t168))))) = some r := H
  have A6 := Aside0.mk A60
  clear A60
  obtain ⟨ji7, hji7⟩ : ∃ j_ : Int, (mn t169 (wrap64 (t172 - t167))) = j_ := ⟨_, rfl⟩
  replace H : ((torus_Torus_Side.f (wrap64 (1 + (Int.tmod (wrap64 ((Int.tmod a0 4) + 4)) 4)))).bind fun t173 => (glebelaw04_WindowDists.l0 k (-1) 0 t165 t166 (wrap64 (1 + (Int.tmod (wrap64 ((Int.tmod a0 4) + 4)) 4))) t167 t168 ji7 (mn t170 (wrap64 (t173 - t168))))) = some r := by first | (rw [hji7] at H; exact H) | (simp only [hji7] at H ⊢; exact H)
  (try rw [hji7] at A4)
  (try rw [hji7] at A5)
  (try rw [hji7] at A6)
  have hji7_ : (if (wrap64 (t172 - t167)) < t169 then (wrap64 (t172 - t167)) else t169) = ji7 := hji7
  replace H := Option.bind_eq_some_iff.mp H
  obtain ⟨t173, A80, H⟩ := H
  replace H : (glebelaw04_WindowDists.l0 k (-1) 0 t165 t166 (wrap64 (1 + (Int.tmod (wrap64 ((Int.tmod a0 4) + 4)) 4))) t167 t168 ji7 (mn t170 (wrap64 (t173 - t168)))) = some r := H
  have A8 := Aside0.mk A80
  clear A80
  obtain ⟨ji9, hji9⟩ : ∃ j_ : Int, (mn t170 (wrap64 (t173 - t168))) = j_ := ⟨_, rfl⟩
  replace H : (glebelaw04_WindowDists.l0 k (-1) 0 t165 t166 (wrap64 (1 + (Int.tmod (wrap64 ((Int.tmod a0 4) + 4)) 4))) t167 t168 ji7 ji9) = some r := by first | (rw [hji9] at H; exact H) | (simp only [hji9] at H ⊢; exact H)
  (try rw [hji9] at A4)
  (try rw [hji9] at A5)
  (try rw [hji9] at A6)
  (try rw [hji9] at A8)
  have hji9_ : (if (wrap64 (t173 - t168)) < t170 then (wrap64 (t173 - t168)) else t170) = ji9 := hji9
  have H' := Aside0.mk H
  clear H
  go_enter Try.func3, Try.ntmps3
  try go_wp2_with (first | ((with_reducible refine gate_dst (N := 4) rfl ?_); refine box_event ?hg (N := 4) ?hd (cs := #[.int .i64 a1_0, .int .i64 a1_1, .int .i64 a1_2, .int .i64 a1_3]) (t := 23) ?hr ?_; (case hd => rfl); (case hg => rfl); (case hr => first | (go_simp; done) | (go_simp; rfl)); intro gb162 hg w10 hbox hb; have n0_ := Aside0.mk (below_step (by repeat (first | (with_reducible first | exact HB.out | apply below_alloc | apply pw_below_drewN | apply below_drew1) | exact HB.out)) hb); have n1_ := Aside0.mk (hbox); have n2_ := Aside0.mk ((by rw [hg]; exact (below_size (by repeat (first | (with_reducible first | exact HB.out | apply below_alloc | apply pw_below_drewN | apply below_drew1) | exact HB.out))) : w.heap.size ≤ gb162)); have n3_ := Aside0.mk ((by rw [hg]; exact (below_size (by repeat (first | (with_reducible first | exact HB.out | apply below_alloc | apply pw_below_drewN | apply below_drew1) | exact HB.out))) : w.heap.size ≤ gb162)); clear HB; have HB := n0_; have BK162 := n1_; have GW162 := n2_; have GE162 := n3_; clear n0_ n1_ n2_ n3_; clear hb hbox hg) | ((with_reducible refine gate_dst (N := 5) rfl ?_); refine box_event ?hg (N := 5) ?hd (cs := #[.int .i64 a2_0, .int .i64 a2_1]) (t := 25) ?hr ?_; (case hd => rfl); (case hg => rfl); (case hr => first | (go_simp; done) | (go_simp; rfl)); intro gb163 hg w11 hbox hb; have n0_ := Aside0.mk (blk_below (g := gb162) (o := .cells #[.int .i64 a1_0, .int .i64 a1_1, .int .i64 a1_2, .int .i64 a1_3] 23 (0, 0)) (by (with_reducible repeat (first | refine blk_drewN ?_ _ | refine blk_drew ?_ | refine blk_alloc ?_ _)); exact BK162.out) hb); have n1_ := Aside0.mk (below_step (by repeat (first | (with_reducible first | exact HB.out | apply below_alloc | apply pw_below_drewN | apply below_drew1 | refine below_set ?_ GE162.out) | exact HB.out)) hb); have n2_ := Aside0.mk (hbox); have n3_ := Aside0.mk ((by rw [hg]; exact (below_size (by repeat (first | (with_reducible first | exact HB.out | apply below_alloc | apply pw_below_drewN | apply below_drew1 | refine below_set ?_ GE162.out) | exact HB.out))) : w.heap.size ≤ gb163)); have n4_ := Aside0.mk ((by rw [hg]; exact (below_size (by repeat (first | (with_reducible first | exact HB.out | apply below_alloc | apply pw_below_drewN | apply below_drew1 | refine below_set ?_ GE162.out) | exact HB.out))) : w.heap.size ≤ gb163)); have n5_ := Aside0.mk ((by rw [hg]; exact Nat.ne_of_lt (blk_lt (g := gb162) (o := .cells #[.int .i64 a1_0, .int .i64 a1_1, .int .i64 a1_2, .int .i64 a1_3] 23 (0, 0)) (by (with_reducible repeat (first | refine blk_drewN ?_ _ | refine blk_drew ?_ | refine blk_alloc ?_ _)); exact BK162.out)) : gb162 ≠ gb163)); have n6_ := Aside0.mk ((by rw [hg]; exact Nat.ne_of_gt (blk_lt (g := gb162) (o := .cells #[.int .i64 a1_0, .int .i64 a1_1, .int .i64 a1_2, .int .i64 a1_3] 23 (0, 0)) (by (with_reducible repeat (first | refine blk_drewN ?_ _ | refine blk_drew ?_ | refine blk_alloc ?_ _)); exact BK162.out)) : gb163 ≠ gb162)); clear BK162; clear HB; have BK162 := n0_; have HB := n1_; have BK163 := n2_; have GW163 := n3_; have GE163 := n4_; have NB162_163 := n5_; have NB163_162 := n6_; clear n0_ n1_ n2_ n3_ n4_ n5_ n6_; clear hb hbox hg) | ((with_reducible refine gate_dst (N := 7) rfl ?_); refine box_event ?hg (N := 7) ?hd (cs := #[.int .i64 0]) (t := 27) ?hr ?_; (case hd => rfl); (case hg => rfl); (case hr => first | (go_simp; done) | (go_simp; rfl)); intro gb164 hg w12 hbox hb; have n0_ := Aside0.mk (blk_below (g := gb162) (o := .cells #[.int .i64 a1_0, .int .i64 a1_1, .int .i64 a1_2, .int .i64 a1_3] 23 (0, 0)) (by (with_reducible repeat (first | refine blk_drewN ?_ _ | refine blk_drew ?_ | refine blk_alloc ?_ _)); exact BK162.out) hb); have n1_ := Aside0.mk (blk_below (g := gb163) (o := .cells #[.int .i64 a2_0, .int .i64 a2_1] 25 (0, 0)) (by (with_reducible repeat (first | refine blk_drewN ?_ _ | refine blk_drew ?_ | refine blk_alloc ?_ _)); exact BK163.out) hb); have n2_ := Aside0.mk (below_step (by repeat (first | (with_reducible first | exact HB.out | apply below_alloc | apply pw_below_drewN | apply below_drew1 | refine below_set ?_ GE162.out | refine below_set ?_ GE163.out) | exact HB.out)) hb); have n3_ := Aside0.mk (hbox); have n4_ := Aside0.mk ((by rw [hg]; exact (below_size (by repeat (first | (with_reducible first | exact HB.out | apply below_alloc | apply pw_below_drewN | apply below_drew1 | refine below_set ?_ GE162.out | refine below_set ?_ GE163.out) | exact HB.out))) : w.heap.size ≤ gb164)); have n5_ := Aside0.mk ((by rw [hg]; exact (below_size (by repeat (first | (with_reducible first | exact HB.out | apply below_alloc | apply pw_below_drewN | apply below_drew1 | refine below_set ?_ GE162.out | refine below_set ?_ GE163.out) | exact HB.out))) : w.heap.size ≤ gb164)); have n6_ := Aside0.mk ((by rw [hg]; exact Nat.ne_of_lt (blk_lt (g := gb162) (o := .cells #[.int .i64 a1_0, .int .i64 a1_1, .int .i64 a1_2, .int .i64 a1_3] 23 (0, 0)) (by (with_reducible repeat (first | refine blk_drewN ?_ _ | refine blk_drew ?_ | refine blk_alloc ?_ _)); exact BK162.out)) : gb162 ≠ gb164)); have n7_ := Aside0.mk ((by rw [hg]; exact Nat.ne_of_gt (blk_lt (g := gb162) (o := .cells #[.int .i64 a1_0, .int .i64 a1_1, .int .i64 a1_2, .int .i64 a1_3] 23 (0, 0)) (by (with_reducible repeat (first | refine blk_drewN ?_ _ | refine blk_drew ?_ | refine blk_alloc ?_ _)); exact BK162.out)) : gb164 ≠ gb162)); have n8_ := Aside0.mk ((by rw [hg]; exact Nat.ne_of_lt (blk_lt (g := gb163) (o := .cells #[.int .i64 a2_0, .int .i64 a2_1] 25 (0, 0)) (by (with_reducible repeat (first | refine blk_drewN ?_ _ | refine blk_drew ?_ | refine blk_alloc ?_ _)); exact BK163.out)) : gb163 ≠ gb164)); have n9_ := Aside0.mk ((by rw [hg]; exact Nat.ne_of_gt (blk_lt (g := gb163) (o := .cells #[.int .i64 a2_0, .int .i64 a2_1] 25 (0, 0)) (by (with_reducible repeat (first | refine blk_drewN ?_ _ | refine blk_drew ?_ | refine blk_alloc ?_ _)); exact BK163.out)) : gb164 ≠ gb163)); clear BK162; clear BK163; clear HB; have BK162 := n0_; have BK163 := n1_; have HB := n2_; have BK164 := n3_; have GW164 := n4_; have GE164 := n5_; have NB162_164 := n6_; have NB164_162 := n7_; have NB163_164 := n8_; have NB164_163 := n9_; clear n0_ n1_ n2_ n3_ n4_ n5_ n6_ n7_ n8_ n9_; clear hb hbox hg; have hnb13 := NB164_162.out; have hnc13 := NB162_164.out; have hnb14 := NB164_163.out; have hnc14 := NB163_164.out; have hcz15_0 : w12.cell? ⟨gb164, 0, none⟩ = some (.int .i64 0) := (blk_cell BK164.out 0).trans rfl; have hfz15_0 := blk_frozen BK164.out 0; have hnb16 := NB163_162.out; have hnc16 := NB162_163.out; have hcz17_0 : w12.cell? ⟨gb163, 0, none⟩ = some (.int .i64 a2_0) := (blk_cell BK163.out 0).trans rfl; have hcz17_1 : w12.cell? ⟨gb163, 1, none⟩ = some (.int .i64 a2_1) := (blk_cell BK163.out 1).trans rfl; have hfz17_0 := blk_frozen BK163.out 0; have hfz17_1 := blk_frozen BK163.out 1) | ((with_reducible refine gate_callee (f := 7) rfl ?_); refine goesL_ (some 25) rfl rfl Try.func7 (by kernel_rfl) rfl #[.agg #[.int .i64 (wrap64 (1 + (Int.tmod (wrap64 ((Int.tmod a0 4) + 4)) 4)))], .int .i64 a2_0, .int .i64 a2_1] rfl (by (try simp only [List.map_toArray, List.map_cons, List.map_nil]); first | done | rfl | (simp only [List.length_drop, List.length_take]; rfl)) ?_; (with_reducible refine (torus_Torus_Wrap.calls (wrap64 (1 + (Int.tmod (wrap64 ((Int.tmod a0 4) + 4)) 4))) a2_0 a2_1 t165 t166 _ A4.out).mono ?_); rintro e w18 ⟨rfl, hb⟩; refine ⟨_, rfl, ?_⟩; have n0_ := Aside0.mk (blk_below (g := gb162) (o := .cells #[.int .i64 a1_0, .int .i64 a1_1, .int .i64 a1_2, .int .i64 a1_3] 23 (0, 0)) (by (with_reducible repeat (first | refine blk_drewN ?_ _ | refine blk_drew ?_ | refine blk_alloc ?_ _)); refine blk_far ?_ NB162_164.out _; (with_reducible repeat (first | refine blk_drewN ?_ _ | refine blk_drew ?_ | refine blk_alloc ?_ _)); exact BK162.out) hb); have n1_ := Aside0.mk (blk_below (g := gb163) (o := .cells #[.int .i64 a2_0, .int .i64 a2_1] 25 (0, 0)) (by (with_reducible repeat (first | refine blk_drewN ?_ _ | refine blk_drew ?_ | refine blk_alloc ?_ _)); refine blk_far ?_ NB163_164.out _; (with_reducible repeat (first | refine blk_drewN ?_ _ | refine blk_drew ?_ | refine blk_alloc ?_ _)); exact BK163.out) hb); have n2_ := Aside0.mk (blk_below (g := gb164) (o := .cells #[.int .i64 (wrap64 (1 + (Int.tmod (wrap64 ((Int.tmod a0 4) + 4)) 4)))] 27 (0, 0)) (by (with_reducible repeat (first | refine blk_drewN ?_ _ | refine blk_drew ?_ | refine blk_alloc ?_ _)); refine blk_put (cs := #[.int .i64 0]) ?_ 0 _ rfl; (with_reducible repeat (first | refine blk_drewN ?_ _ | refine blk_drew ?_ | refine blk_alloc ?_ _)); exact BK164.out) hb); have n3_ := Aside0.mk (below_step (by repeat (first | (with_reducible first | exact HB.out | apply below_alloc | apply pw_below_drewN | apply below_drew1 | refine below_set ?_ GE162.out | refine below_set ?_ GE163.out | refine below_set ?_ GE164.out) | exact HB.out)) hb); clear BK162; clear BK163; clear BK164; clear HB; have BK162 := n0_; have BK163 := n1_; have BK164 := n2_; have HB := n3_; clear n0_ n1_ n2_ n3_; (try clear hb); (try clear hb2); (try clear hk); (try clear hi); have hcz19_0 : w18.cell? ⟨gb163, 0, none⟩ = some (.int .i64 a2_0) := (blk_cell BK163.out 0).trans rfl; have hcz19_1 : w18.cell? ⟨gb163, 1, none⟩ = some (.int .i64 a2_1) := (blk_cell BK163.out 1).trans rfl; have hfz19_0 := blk_frozen BK163.out 0; have hfz19_1 := blk_frozen BK163.out 1; have hcz20_0 : w18.cell? ⟨gb164, 0, none⟩ = some (.int .i64 (wrap64 (1 + (Int.tmod (wrap64 ((Int.tmod a0 4) + 4)) 4)))) := (blk_cell BK164.out 0).trans rfl; have hfz20_0 := blk_frozen BK164.out 0; have hcz21_0 : w18.cell? ⟨gb162, 0, none⟩ = some (.int .i64 a1_0) := (blk_cell BK162.out 0).trans rfl; have hcz21_1 : w18.cell? ⟨gb162, 1, none⟩ = some (.int .i64 a1_1) := (blk_cell BK162.out 1).trans rfl; have hcz21_2 : w18.cell? ⟨gb162, 2, none⟩ = some (.int .i64 a1_2) := (blk_cell BK162.out 2).trans rfl; have hcz21_3 : w18.cell? ⟨gb162, 3, none⟩ = some (.int .i64 a1_3) := (blk_cell BK162.out 3).trans rfl; have hfz21_0 := blk_frozen BK162.out 0; have hfz21_1 := blk_frozen BK162.out 1; have hfz21_2 := blk_frozen BK162.out 2; have hfz21_3 := blk_frozen BK162.out 3) | ((with_reducible refine gate_callee (f := 8) rfl ?_); refine goesL_ (some 28) rfl rfl Try.func8 (by kernel_rfl) rfl #[.agg #[.int .i64 (wrap64 (1 + (Int.tmod (wrap64 ((Int.tmod a0 4) + 4)) 4)))], .agg #[.int .i64 a1_0, .int .i64 a1_1, .int .i64 a1_2, .int .i64 a1_3]] rfl (by (try simp only [List.map_toArray, List.map_cons, List.map_nil]); first | done | rfl | (simp only [List.length_drop, List.length_take]; rfl)) ?_; (with_reducible refine (glebelaw04_Some.calls (wrap64 (1 + (Int.tmod (wrap64 ((Int.tmod a0 4) + 4)) 4))) a1_0 a1_1 a1_2 a1_3 t167 t168 t169 t170 _ A5.out).mono ?_); rintro e w22 ⟨rfl, hb⟩; refine ⟨_, rfl, ?_⟩; have n0_ := Aside0.mk (blk_below (g := gb162) (o := .cells #[.int .i64 a1_0, .int .i64 a1_1, .int .i64 a1_2, .int .i64 a1_3] 23 (0, 0)) (by (with_reducible repeat (first | refine blk_drewN ?_ _ | refine blk_drew ?_ | refine blk_alloc ?_ _)); refine blk_far ?_ NB162_163.out _; (with_reducible repeat (first | refine blk_drewN ?_ _ | refine blk_drew ?_ | refine blk_alloc ?_ _)); refine blk_far ?_ NB162_163.out _; (with_reducible repeat (first | refine blk_drewN ?_ _ | refine blk_drew ?_ | refine blk_alloc ?_ _)); exact BK162.out) hb); have n1_ := Aside0.mk (blk_below (g := gb163) (o := .cells #[.int .i64 t165, .int .i64 t166] 25 (0, 0)) (by (with_reducible repeat (first | refine blk_drewN ?_ _ | refine blk_drew ?_ | refine blk_alloc ?_ _)); refine blk_put (cs := #[.int .i64 t165, .int .i64 a2_1]) ?_ 1 _ rfl; (with_reducible repeat (first | refine blk_drewN ?_ _ | refine blk_drew ?_ | refine blk_alloc ?_ _)); refine blk_put (cs := #[.int .i64 a2_0, .int .i64 a2_1]) ?_ 0 _ rfl; (with_reducible repeat (first | refine blk_drewN ?_ _ | refine blk_drew ?_ | refine blk_alloc ?_ _)); exact BK163.out) hb); have n2_ := Aside0.mk (blk_below (g := gb164) (o := .cells #[.int .i64 (wrap64 (1 + (Int.tmod (wrap64 ((Int.tmod a0 4) + 4)) 4)))] 27 (0, 0)) (by (with_reducible repeat (first | refine blk_drewN ?_ _ | refine blk_drew ?_ | refine blk_alloc ?_ _)); refine blk_far ?_ NB164_163.out _; (with_reducible repeat (first | refine blk_drewN ?_ _ | refine blk_drew ?_ | refine blk_alloc ?_ _)); refine blk_far ?_ NB164_163.out _; (with_reducible repeat (first | refine blk_drewN ?_ _ | refine blk_drew ?_ | refine blk_alloc ?_ _)); exact BK164.out) hb); have n3_ := Aside0.mk (below_step (by repeat (first | (with_reducible first | exact HB.out | apply below_alloc | apply pw_below_drewN | apply below_drew1 | refine below_set ?_ GE162.out | refine below_set ?_ GE163.out | refine below_set ?_ GE164.out) | exact HB.out)) hb); clear BK162; clear BK163; clear BK164; clear HB; have BK162 := n0_; have BK163 := n1_; have BK164 := n2_; have HB := n3_; clear n0_ n1_ n2_ n3_; (try clear hb); (try clear hb2); (try clear hk); (try clear hi)) | ((with_reducible refine gate_dst (N := 8) rfl ?_); refine box_event ?hg (N := 8) ?hd (cs := #[.int .i64 0, .int .i64 0, .int .i64 0, .int .i64 0]) (t := 29) ?hr ?_; (case hd => rfl); (case hg => rfl); (case hr => first | (go_simp; done) | (go_simp; rfl)); intro gb171 hg w23 hbox hb; have n0_ := Aside0.mk (blk_below (g := gb162) (o := .cells #[.int .i64 a1_0, .int .i64 a1_1, .int .i64 a1_2, .int .i64 a1_3] 23 (0, 0)) (by (with_reducible repeat (first | refine blk_drewN ?_ _ | refine blk_drew ?_ | refine blk_alloc ?_ _)); exact BK162.out) hb); have n1_ := Aside0.mk (blk_below (g := gb163) (o := .cells #[.int .i64 t165, .int .i64 t166] 25 (0, 0)) (by (with_reducible repeat (first | refine blk_drewN ?_ _ | refine blk_drew ?_ | refine blk_alloc ?_ _)); exact BK163.out) hb); have n2_ := Aside0.mk (blk_below (g := gb164) (o := .cells #[.int .i64 (wrap64 (1 + (Int.tmod (wrap64 ((Int.tmod a0 4) + 4)) 4)))] 27 (0, 0)) (by (with_reducible repeat (first | refine blk_drewN ?_ _ | refine blk_drew ?_ | refine blk_alloc ?_ _)); exact BK164.out) hb); have n3_ := Aside0.mk (below_step (by repeat (first | (with_reducible first | exact HB.out | apply below_alloc | apply pw_below_drewN | apply below_drew1 | refine below_set ?_ GE162.out | refine below_set ?_ GE163.out | refine below_set ?_ GE164.out) | exact HB.out)) hb); have n4_ := Aside0.mk (hbox); have n5_ := Aside0.mk ((by rw [hg]; exact (below_size (by repeat (first | (with_reducible first | exact HB.out | apply below_alloc | apply pw_below_drewN | apply below_drew1 | refine below_set ?_ GE162.out | refine below_set ?_ GE163.out | refine below_set ?_ GE164.out) | exact HB.out))) : w.heap.size ≤ gb171)); have n6_ := Aside0.mk ((by rw [hg]; exact (below_size (by repeat (first | (with_reducible first | exact HB.out | apply below_alloc | apply pw_below_drewN | apply below_drew1 | refine below_set ?_ GE162.out | refine below_set ?_ GE163.out | refine below_set ?_ GE164.out) | exact HB.out))) : w.heap.size ≤ gb171)); have n7_ := Aside0.mk ((by rw [hg]; exact Nat.ne_of_lt (blk_lt (g := gb162) (o := .cells #[.int .i64 a1_0, .int .i64 a1_1, .int .i64 a1_2, .int .i64 a1_3] 23 (0, 0)) (by (with_reducible repeat (first | refine blk_drewN ?_ _ | refine blk_drew ?_ | refine blk_alloc ?_ _)); exact BK162.out)) : gb162 ≠ gb171)); have n8_ := Aside0.mk ((by rw [hg]; exact Nat.ne_of_gt (blk_lt (g := gb162) (o := .cells #[.int .i64 a1_0, .int .i64 a1_1, .int .i64 a1_2, .int .i64 a1_3] 23 (0, 0)) (by (with_reducible repeat (first | refine blk_drewN ?_ _ | refine blk_drew ?_ | refine blk_alloc ?_ _)); exact BK162.out)) : gb171 ≠ gb162)); have n9_ := Aside0.mk ((by rw [hg]; exact Nat.ne_of_lt (blk_lt (g := gb163) (o := .cells #[.int .i64 t165, .int .i64 t166] 25 (0, 0)) (by (with_reducible repeat (first | refine blk_drewN ?_ _ | refine blk_drew ?_ | refine blk_alloc ?_ _)); exact BK163.out)) : gb163 ≠ gb171)); have n10_ := Aside0.mk ((by rw [hg]; exact Nat.ne_of_gt (blk_lt (g := gb163) (o := .cells #[.int .i64 t165, .int .i64 t166] 25 (0, 0)) (by (with_reducible repeat (first | refine blk_drewN ?_ _ | refine blk_drew ?_ | refine blk_alloc ?_ _)); exact BK163.out)) : gb171 ≠ gb163)); have n11_ := Aside0.mk ((by rw [hg]; exact Nat.ne_of_lt (blk_lt (g := gb164) (o := .cells #[.int .i64 (wrap64 (1 + (Int.tmod (wrap64 ((Int.tmod a0 4) + 4)) 4)))] 27 (0, 0)) (by (with_reducible repeat (first | refine blk_drewN ?_ _ | refine blk_drew ?_ | refine blk_alloc ?_ _)); exact BK164.out)) : gb164 ≠ gb171)); have n12_ := Aside0.mk ((by rw [hg]; exact Nat.ne_of_gt (blk_lt (g := gb164) (o := .cells #[.int .i64 (wrap64 (1 + (Int.tmod (wrap64 ((Int.tmod a0 4) + 4)) 4)))] 27 (0, 0)) (by (with_reducible repeat (first | refine blk_drewN ?_ _ | refine blk_drew ?_ | refine blk_alloc ?_ _)); exact BK164.out)) : gb171 ≠ gb164)); clear BK162; clear BK163; clear BK164; clear HB; have BK162 := n0_; have BK163 := n1_; have BK164 := n2_; have HB := n3_; have BK171 := n4_; have GW171 := n5_; have GE171 := n6_; have NB162_171 := n7_; have NB171_162 := n8_; have NB163_171 := n9_; have NB171_163 := n10_; have NB164_171 := n11_; have NB171_164 := n12_; clear n0_ n1_ n2_ n3_ n4_ n5_ n6_ n7_ n8_ n9_ n10_ n11_ n12_; clear hb hbox hg; have hnb24 := NB171_162.out; have hnc24 := NB162_171.out; have hnb25 := NB171_163.out; have hnc25 := NB163_171.out; have hnb26 := NB171_164.out; have hnc26 := NB164_171.out; have hcz27_0 : w23.cell? ⟨gb171, 0, none⟩ = some (.int .i64 0) := (blk_cell BK171.out 0).trans rfl; have hcz27_1 : w23.cell? ⟨gb171, 1, none⟩ = some (.int .i64 0) := (blk_cell BK171.out 1).trans rfl; have hcz27_2 : w23.cell? ⟨gb171, 2, none⟩ = some (.int .i64 0) := (blk_cell BK171.out 2).trans rfl; have hcz27_3 : w23.cell? ⟨gb171, 3, none⟩ = some (.int .i64 0) := (blk_cell BK171.out 3).trans rfl; have hfz27_0 := blk_frozen BK171.out 0; have hfz27_1 := blk_frozen BK171.out 1; have hfz27_2 := blk_frozen BK171.out 2; have hfz27_3 := blk_frozen BK171.out 3))
  have n0_ : Aside0 (((((w23.setCell ⟨gb171, 0, none⟩ (.int .i64 t167)).setCell ⟨gb171, 1, none⟩ (.int .i64 t168)).setCell ⟨gb171, 2, none⟩ (.int .i64 t169)).setCell ⟨gb171, 3, none⟩ (.int .i64 t170)).heap[gb162]? = some (.cells #[.int .i64 a1_0, .int .i64 a1_1, .int .i64 a1_2, .int .i64 a1_3] 23 (0, 0))) := ⟨by (with_reducible repeat (first | refine blk_drewN ?_ _ | refine blk_drew ?_ | refine blk_alloc ?_ _)); refine blk_far ?_ NB162_171.out _; (with_reducible repeat (first | refine blk_drewN ?_ _ | refine blk_drew ?_ | refine blk_alloc ?_ _)); refine blk_far ?_ NB162_171.out _; (with_reducible repeat (first | refine blk_drewN ?_ _ | refine blk_drew ?_ | refine blk_alloc ?_ _)); refine blk_far ?_ NB162_171.out _; (with_reducible repeat (first | refine blk_drewN ?_ _ | refine blk_drew ?_ | refine blk_alloc ?_ _)); refine blk_far ?_ NB162_171.out _; (with_reducible repeat (first | refine blk_drewN ?_ _ | refine blk_drew ?_ | refine blk_alloc ?_ _)); exact BK162.out⟩
  have n1_ : Aside0 (((((w23.setCell ⟨gb171, 0, none⟩ (.int .i64 t167)).setCell ⟨gb171, 1, none⟩ (.int .i64 t168)).setCell ⟨gb171, 2, none⟩ (.int .i64 t169)).setCell ⟨gb171, 3, none⟩ (.int .i64 t170)).heap[gb163]? = some (.cells #[.int .i64 t165, .int .i64 t166] 25 (0, 0))) := ⟨by (with_reducible repeat (first | refine blk_drewN ?_ _ | refine blk_drew ?_ | refine blk_alloc ?_ _)); refine blk_far ?_ NB163_171.out _; (with_reducible repeat (first | refine blk_drewN ?_ _ | refine blk_drew ?_ | refine blk_alloc ?_ _)); refine blk_far ?_ NB163_171.out _; (with_reducible repeat (first | refine blk_drewN ?_ _ | refine blk_drew ?_ | refine blk_alloc ?_ _)); refine blk_far ?_ NB163_171.out _; (with_reducible repeat (first | refine blk_drewN ?_ _ | refine blk_drew ?_ | refine blk_alloc ?_ _)); refine blk_far ?_ NB163_171.out _; (with_reducible repeat (first | refine blk_drewN ?_ _ | refine blk_drew ?_ | refine blk_alloc ?_ _)); exact BK163.out⟩
  have n2_ : Aside0 (((((w23.setCell ⟨gb171, 0, none⟩ (.int .i64 t167)).setCell ⟨gb171, 1, none⟩ (.int .i64 t168)).setCell ⟨gb171, 2, none⟩ (.int .i64 t169)).setCell ⟨gb171, 3, none⟩ (.int .i64 t170)).heap[gb164]? = some (.cells #[.int .i64 (wrap64 (1 + (Int.tmod (wrap64 ((Int.tmod a0 4) + 4)) 4)))] 27 (0, 0))) := ⟨by (with_reducible repeat (first | refine blk_drewN ?_ _ | refine blk_drew ?_ | refine blk_alloc ?_ _)); refine blk_far ?_ NB164_171.out _; (with_reducible repeat (first | refine blk_drewN ?_ _ | refine blk_drew ?_ | refine blk_alloc ?_ _)); refine blk_far ?_ NB164_171.out _; (with_reducible repeat (first | refine blk_drewN ?_ _ | refine blk_drew ?_ | refine blk_alloc ?_ _)); refine blk_far ?_ NB164_171.out _; (with_reducible repeat (first | refine blk_drewN ?_ _ | refine blk_drew ?_ | refine blk_alloc ?_ _)); refine blk_far ?_ NB164_171.out _; (with_reducible repeat (first | refine blk_drewN ?_ _ | refine blk_drew ?_ | refine blk_alloc ?_ _)); exact BK164.out⟩
  have n3_ : Aside0 (((((w23.setCell ⟨gb171, 0, none⟩ (.int .i64 t167)).setCell ⟨gb171, 1, none⟩ (.int .i64 t168)).setCell ⟨gb171, 2, none⟩ (.int .i64 t169)).setCell ⟨gb171, 3, none⟩ (.int .i64 t170)).heap[gb171]? = some (.cells #[.int .i64 t167, .int .i64 t168, .int .i64 t169, .int .i64 t170] 29 (0, 0))) := ⟨by (with_reducible repeat (first | refine blk_drewN ?_ _ | refine blk_drew ?_ | refine blk_alloc ?_ _)); refine blk_put (cs := #[.int .i64 t167, .int .i64 t168, .int .i64 t169, .int .i64 0]) ?_ 3 _ rfl; (with_reducible repeat (first | refine blk_drewN ?_ _ | refine blk_drew ?_ | refine blk_alloc ?_ _)); refine blk_put (cs := #[.int .i64 t167, .int .i64 t168, .int .i64 0, .int .i64 0]) ?_ 2 _ rfl; (with_reducible repeat (first | refine blk_drewN ?_ _ | refine blk_drew ?_ | refine blk_alloc ?_ _)); refine blk_put (cs := #[.int .i64 t167, .int .i64 0, .int .i64 0, .int .i64 0]) ?_ 1 _ rfl; (with_reducible repeat (first | refine blk_drewN ?_ _ | refine blk_drew ?_ | refine blk_alloc ?_ _)); refine blk_put (cs := #[.int .i64 0, .int .i64 0, .int .i64 0, .int .i64 0]) ?_ 0 _ rfl; (with_reducible repeat (first | refine blk_drewN ?_ _ | refine blk_drew ?_ | refine blk_alloc ?_ _)); exact BK171.out⟩
  have n4_ : Aside0 (Below w.heap.size w ((((w23.setCell ⟨gb171, 0, none⟩ (.int .i64 t167)).setCell ⟨gb171, 1, none⟩ (.int .i64 t168)).setCell ⟨gb171, 2, none⟩ (.int .i64 t169)).setCell ⟨gb171, 3, none⟩ (.int .i64 t170))) := ⟨by repeat (first | (with_reducible first | exact HB.out | apply below_alloc | apply pw_below_drewN | apply below_drew1 | refine below_set ?_ GE162.out | refine below_set ?_ GE163.out | refine below_set ?_ GE164.out | refine below_set ?_ GE171.out) | exact HB.out)⟩
  (try clear BK162)
  (try clear BK163)
  (try clear BK164)
  (try clear BK171)
  (try clear HB)
  generalize ((((w23.setCell ⟨gb171, 0, none⟩ (.int .i64 t167)).setCell ⟨gb171, 1, none⟩ (.int .i64 t168)).setCell ⟨gb171, 2, none⟩ (.int .i64 t169)).setCell ⟨gb171, 3, none⟩ (.int .i64 t170)) = w28 at n0_ n1_ n2_ n3_ n4_ ⊢
  have BK162 := n0_
  have BK163 := n1_
  have BK164 := n2_
  have BK171 := n3_
  have HB := n4_
  clear n0_ n1_ n2_ n3_ n4_
  have n0_ := Aside0.mk (blk_drew BK162.out)
  have n1_ := Aside0.mk (blk_drew BK163.out)
  have n2_ := Aside0.mk (blk_drew BK164.out)
  have n3_ := Aside0.mk (blk_drew BK171.out)
  have n4_ := Aside0.mk (below_drew1 HB.out)
  clear BK162
  clear BK163
  clear BK164
  clear BK171
  clear HB
  have BK162 := n0_
  have BK163 := n1_
  have BK164 := n2_
  have BK171 := n3_
  have HB := n4_
  clear n0_ n1_ n2_ n3_ n4_
  refine start_ (n := 10) (S := fun w' => w'.cell? ⟨gb171, 0, none⟩ = some (.int .i64 t167) ∧ w'.cell? ⟨gb171, 1, none⟩ = some (.int .i64 t168) ∧ w'.cell? ⟨gb171, 2, none⟩ = some (.int .i64 t169) ∧ w'.cell? ⟨gb171, 3, none⟩ = some (.int .i64 t170) ∧ w'.cell? ⟨gb164, 0, none⟩ = some (.int .i64 (wrap64 (1 + (Int.tmod (wrap64 ((Int.tmod a0 4) + 4)) 4))))) (ds := [9]) #[false, false, false, false, false, false, false, false, false, false] (by kernel_rfl) rfl rfl ⟨(blk_cell BK171.out 0).trans rfl, (blk_cell BK171.out 1).trans rfl, (blk_cell BK171.out 2).trans rfl, (blk_cell BK171.out 3).trans rfl, (blk_cell BK164.out 0).trans rfl⟩ (fun hHeld => ?_); refine with_tabW glebelaw04_WindowDists.tab5 glebelaw04_WindowDists.bits5 (fun HT_ HW_ => ?_)
  generalize w28.drew = w29 at BK162 BK163 BK164 BK171 HB hHeld ⊢
  refine pure_ (i := 0) (N := some 29) (v := ?_) (a' := ?_) #[true, false, false, false, false, false, false, false, false, false] rfl rfl (any_of HT_.out (by kernel_rfl)) (fun _ _ _ h => h) (Or.inl ⟨by rfl, ?_⟩) ?_ ?_
  rotate_left
  · intro w'
    go_simp
    with_reducible rfl
  rotate_left
  · simp only [Act.put, List.setIfInBounds_toArray, List.set_cons_zero, List.set_cons_succ, i64_w, i32_w]
    rfl
  refine pure_ (i := 4) (N := some 33) (v := ?_) (a' := ?_) #[true, false, false, false, true, false, false, false, false, false] rfl rfl (any_of HT_.out (by kernel_rfl)) (fun _ _ _ h => h) (Or.inl ⟨by rfl, ?_⟩) ?_ ?_
  rotate_left
  · intro w'
    go_simp
    with_reducible rfl
  rotate_left
  · simp only [Act.put, List.setIfInBounds_toArray, List.set_cons_zero, List.set_cons_succ, i64_w, i32_w]
    rfl
  refine take_ (i := 1) (N := some 30) (v := ?_) (a' := ?_) #[true, true, false, false, true, false, false, false, false, false] rfl rfl (take_ofW HT_.out HW_.out (by kernel_rfl)) (fun _ _ _ h => h) (Or.inl ⟨by rfl, ?_⟩) hHeld ?_ ?_
  rotate_left
  · rintro w' ⟨s0, s1, s2, s3, s4⟩
    go_simp
    with_reducible rfl
  rotate_left
  · simp only [Act.put, List.setIfInBounds_toArray, List.set_cons_zero, List.set_cons_succ, i64_w, i32_w]
    rfl
  refine take_ (i := 2) (N := some 31) (v := ?_) (a' := ?_) #[true, true, true, false, true, false, false, false, false, false] rfl rfl (take_ofW HT_.out HW_.out (by kernel_rfl)) (fun _ _ _ h => h) (Or.inl ⟨by rfl, ?_⟩) hHeld ?_ ?_
  rotate_left
  · rintro w' ⟨s0, s1, s2, s3, s4⟩
    go_simp
    with_reducible rfl
  rotate_left
  · simp only [Act.put, List.setIfInBounds_toArray, List.set_cons_zero, List.set_cons_succ, i64_w, i32_w]
    rfl
  refine take_ (i := 5) (N := some 34) (v := ?_) (a' := ?_) #[true, true, true, false, true, true, false, false, false, false] rfl rfl (take_ofW HT_.out HW_.out (by kernel_rfl)) (fun _ _ _ h => h) (Or.inl ⟨by rfl, ?_⟩) hHeld ?_ ?_
  rotate_left
  · rintro w' ⟨s0, s1, s2, s3, s4⟩
    go_simp
    with_reducible rfl
  rotate_left
  · simp only [Act.put, List.setIfInBounds_toArray, List.set_cons_zero, List.set_cons_succ, i64_w, i32_w]
    rfl
  refine one_ (i := 3) (N := some 32) #[true, true, true, true, true, true, false, false, false, false] rfl rfl (one_of HT_.out (by kernel_rfl)) (by decide) (fun K hK => ?_)
  refine goes_ Try.func9 (by kernel_rfl) rfl #[.agg #[.int .i64 (wrap64 (1 + (Int.tmod (wrap64 ((Int.tmod a0 4) + 4)) 4)))]] (by rfl) rfl rfl (by (try simp only [List.map_toArray, List.map_cons, List.map_nil]); first | done | rfl | (simp only [List.length_drop, List.length_take]; rfl)) ?_
  with_reducible refine (torus_Torus_Side.calls (wrap64 (1 + (Int.tmod (wrap64 ((Int.tmod a0 4) + 4)) 4))) t172 _ A6.out).mono ?_
  rintro e w30 ⟨rfl, hb⟩
  refine ⟨_, rfl, ?_⟩
  have n0_ := Aside0.mk (blk_below (g := gb162) (o := .cells #[.int .i64 a1_0, .int .i64 a1_1, .int .i64 a1_2, .int .i64 a1_3] 23 (0, 0)) (by (with_reducible repeat (first | refine blk_drewN ?_ _ | refine blk_drew ?_ | refine blk_alloc ?_ _)); exact BK162.out) hb)
  have n1_ := Aside0.mk (blk_below (g := gb163) (o := .cells #[.int .i64 t165, .int .i64 t166] 25 (0, 0)) (by (with_reducible repeat (first | refine blk_drewN ?_ _ | refine blk_drew ?_ | refine blk_alloc ?_ _)); exact BK163.out) hb)
  have n2_ := Aside0.mk (blk_below (g := gb164) (o := .cells #[.int .i64 (wrap64 (1 + (Int.tmod (wrap64 ((Int.tmod a0 4) + 4)) 4)))] 27 (0, 0)) (by (with_reducible repeat (first | refine blk_drewN ?_ _ | refine blk_drew ?_ | refine blk_alloc ?_ _)); exact BK164.out) hb)
  have n3_ := Aside0.mk (blk_below (g := gb171) (o := .cells #[.int .i64 t167, .int .i64 t168, .int .i64 t169, .int .i64 t170] 29 (0, 0)) (by (with_reducible repeat (first | refine blk_drewN ?_ _ | refine blk_drew ?_ | refine blk_alloc ?_ _)); exact BK171.out) hb)
  have n4_ := Aside0.mk (below_step (by repeat (first | (with_reducible first | exact HB.out | apply below_alloc | apply pw_below_drewN | apply below_drew1 | refine below_set ?_ GE162.out | refine below_set ?_ GE163.out | refine below_set ?_ GE164.out | refine below_set ?_ GE171.out) | exact HB.out)) hb)
  clear BK162
  clear BK163
  clear BK164
  clear BK171
  clear HB
  have BK162 := n0_
  have BK163 := n1_
  have BK164 := n2_
  have BK171 := n3_
  have HB := n4_
  clear n0_ n1_ n2_ n3_ n4_
  (try clear hb)
  (try clear hb2)
  (try clear hk)
  (try clear hi)
  refine hK.out _ _ ⟨(blk_cell BK171.out 0).trans rfl, (blk_cell BK171.out 1).trans rfl, (blk_cell BK171.out 2).trans rfl, (blk_cell BK171.out 3).trans rfl, (blk_cell BK164.out 0).trans rfl⟩ (fun hHeld => ?_)
  clear hK K
  refine norm_ (a' := ?_) ?_ ?_
  rotate_left
  · show Act.put _ (some 32) _ = _
    simp only [Act.put, List.setIfInBounds_toArray, List.set_cons_zero, List.set_cons_succ, i64_w, i32_w]
    rfl
  refine pure_ (i := 6) (N := some 35) (v := ?_) (a' := ?_) #[true, true, true, true, true, true, true, false, false, false] rfl rfl (any_of HT_.out (by kernel_rfl)) (fun _ _ _ h => h) (Or.inl ⟨by rfl, ?_⟩) ?_ ?_
  rotate_left
  · intro w'
    go_simp
    with_reducible rfl
  rotate_left
  · simp only [Act.put, List.setIfInBounds_toArray, List.set_cons_zero, List.set_cons_succ, i64_w, i32_w]
    rfl
  refine pure_ (i := 7) (N := some 36) (v := ?_) (a' := ?_) #[true, true, true, true, true, true, true, true, false, false] rfl rfl (any_of HT_.out (by kernel_rfl)) (fun _ _ _ h => h) (Or.inl ⟨by rfl, ?_⟩) ?_ ?_
  rotate_left
  · intro w'
    go_simp
    with_reducible rfl
  rotate_left
  · simp only [Act.put, List.setIfInBounds_toArray, List.set_cons_zero, List.set_cons_succ, i64_w, i32_w]
    rfl
  refine pure_ (i := 8) (N := some 37) (v := ?_) (a' := ?_) #[true, true, true, true, true, true, true, true, true, false] rfl rfl (any_of HT_.out (by kernel_rfl)) (fun _ _ _ h => h) (Or.inl ⟨by rfl, ?_⟩) ?_ ?_
  rotate_left
  · intro w'
    go_simp
    with_reducible rfl
  rotate_left
  · simp only [Act.put, List.setIfInBounds_toArray, List.set_cons_zero, List.set_cons_succ, i64_w, i32_w]
    rfl
  refine last_ (i := 9) (N := none) #[true, true, true, true, true, true, true, true, true, true] rfl rfl (one_of HT_.out (by kernel_rfl)) (by decide) (fun K hK => ?_)
  have hs31 : w30.cell? ⟨gb171, 2, none⟩ = some (.int .i64 t169) := (blk_cell BK171.out 2).trans rfl
  have hfs31 := blk_frozen BK171.out 2
  have hns31_0 := NB162_171.out
  have hns31_1 := NB163_171.out
  have hns31_2 := NB164_171.out
  have hms31_0 := NB171_162.out
  have hms31_1 := NB171_163.out
  have hms31_2 := NB171_164.out
  refine skip_ (w1 := ?_) (by rfl) rfl ?_ ?_
  rotate_left
  · go_simp
    rfl
  refine hK.out _ _ ?_
  clear hK K
  refine done_ (done_of HT_.out (by kernel_rfl)) ?_
  try go_wp2
  have n0_ : Aside0 ((w30.setCell ⟨gb171, 2, none⟩ (.int .i64 ji7)).heap[gb162]? = some (.cells #[.int .i64 a1_0, .int .i64 a1_1, .int .i64 a1_2, .int .i64 a1_3] 23 (0, 0))) := ⟨by (with_reducible repeat (first | refine blk_drewN ?_ _ | refine blk_drew ?_ | refine blk_alloc ?_ _)); refine blk_far ?_ NB162_171.out _; (with_reducible repeat (first | refine blk_drewN ?_ _ | refine blk_drew ?_ | refine blk_alloc ?_ _)); exact BK162.out⟩
  have n1_ : Aside0 ((w30.setCell ⟨gb171, 2, none⟩ (.int .i64 ji7)).heap[gb163]? = some (.cells #[.int .i64 t165, .int .i64 t166] 25 (0, 0))) := ⟨by (with_reducible repeat (first | refine blk_drewN ?_ _ | refine blk_drew ?_ | refine blk_alloc ?_ _)); refine blk_far ?_ NB163_171.out _; (with_reducible repeat (first | refine blk_drewN ?_ _ | refine blk_drew ?_ | refine blk_alloc ?_ _)); exact BK163.out⟩
  have n2_ : Aside0 ((w30.setCell ⟨gb171, 2, none⟩ (.int .i64 ji7)).heap[gb164]? = some (.cells #[.int .i64 (wrap64 (1 + (Int.tmod (wrap64 ((Int.tmod a0 4) + 4)) 4)))] 27 (0, 0))) := ⟨by (with_reducible repeat (first | refine blk_drewN ?_ _ | refine blk_drew ?_ | refine blk_alloc ?_ _)); refine blk_far ?_ NB164_171.out _; (with_reducible repeat (first | refine blk_drewN ?_ _ | refine blk_drew ?_ | refine blk_alloc ?_ _)); exact BK164.out⟩
  have n3_ : Aside0 ((w30.setCell ⟨gb171, 2, none⟩ (.int .i64 ji7)).heap[gb171]? = some (.cells #[.int .i64 t167, .int .i64 t168, .int .i64 ji7, .int .i64 t170] 29 (0, 0))) := ⟨by (with_reducible repeat (first | refine blk_drewN ?_ _ | refine blk_drew ?_ | refine blk_alloc ?_ _)); refine blk_put (cs := #[.int .i64 t167, .int .i64 t168, .int .i64 t169, .int .i64 t170]) ?_ 2 _ rfl; (with_reducible repeat (first | refine blk_drewN ?_ _ | refine blk_drew ?_ | refine blk_alloc ?_ _)); exact BK171.out⟩
  have n4_ : Aside0 (Below w.heap.size w (w30.setCell ⟨gb171, 2, none⟩ (.int .i64 ji7))) := ⟨by repeat (first | (with_reducible first | exact HB.out | apply below_alloc | apply pw_below_drewN | apply below_drew1 | refine below_set ?_ GE162.out | refine below_set ?_ GE163.out | refine below_set ?_ GE164.out | refine below_set ?_ GE171.out) | exact HB.out)⟩
  (try clear BK162)
  (try clear BK163)
  (try clear BK164)
  (try clear BK171)
  (try clear HB)
  generalize (w30.setCell ⟨gb171, 2, none⟩ (.int .i64 ji7)) = w32 at n0_ n1_ n2_ n3_ n4_ ⊢
  have BK162 := n0_
  have BK163 := n1_
  have BK164 := n2_
  have BK171 := n3_
  have HB := n4_
  clear n0_ n1_ n2_ n3_ n4_
  have n0_ := Aside0.mk (blk_drew BK162.out)
  have n1_ := Aside0.mk (blk_drew BK163.out)
  have n2_ := Aside0.mk (blk_drew BK164.out)
  have n3_ := Aside0.mk (blk_drew BK171.out)
  have n4_ := Aside0.mk (below_drew1 HB.out)
  clear BK162
  clear BK163
  clear BK164
  clear BK171
  clear HB
  have BK162 := n0_
  have BK163 := n1_
  have BK164 := n2_
  have BK171 := n3_
  have HB := n4_
  clear n0_ n1_ n2_ n3_ n4_
  refine start_ (n := 10) (S := fun w' => w'.cell? ⟨gb171, 0, none⟩ = some (.int .i64 t167) ∧ w'.cell? ⟨gb171, 1, none⟩ = some (.int .i64 t168) ∧ w'.cell? ⟨gb171, 2, none⟩ = some (.int .i64 ji7) ∧ w'.cell? ⟨gb171, 3, none⟩ = some (.int .i64 t170) ∧ w'.cell? ⟨gb164, 0, none⟩ = some (.int .i64 (wrap64 (1 + (Int.tmod (wrap64 ((Int.tmod a0 4) + 4)) 4))))) (ds := [9]) #[false, false, false, false, false, false, false, false, false, false] (by kernel_rfl) rfl rfl ⟨(blk_cell BK171.out 0).trans rfl, (blk_cell BK171.out 1).trans rfl, (blk_cell BK171.out 2).trans rfl, (blk_cell BK171.out 3).trans rfl, (blk_cell BK164.out 0).trans rfl⟩ (fun hHeld => ?_); refine with_tabW glebelaw04_WindowDists.tab6 glebelaw04_WindowDists.bits6 (fun HT_ HW_ => ?_)
  generalize w32.drew = w33 at BK162 BK163 BK164 BK171 HB hHeld ⊢
  refine pure_ (i := 0) (N := some 38) (v := ?_) (a' := ?_) #[true, false, false, false, false, false, false, false, false, false] rfl rfl (any_of HT_.out (by kernel_rfl)) (fun _ _ _ h => h) (Or.inl ⟨by rfl, ?_⟩) ?_ ?_
  rotate_left
  · intro w'
    go_simp
    with_reducible rfl
  rotate_left
  · simp only [Act.put, List.setIfInBounds_toArray, List.set_cons_zero, List.set_cons_succ, i64_w, i32_w]
    rfl
  refine pure_ (i := 4) (N := some 42) (v := ?_) (a' := ?_) #[true, false, false, false, true, false, false, false, false, false] rfl rfl (any_of HT_.out (by kernel_rfl)) (fun _ _ _ h => h) (Or.inl ⟨by rfl, ?_⟩) ?_ ?_
  rotate_left
  · intro w'
    go_simp
    with_reducible rfl
  rotate_left
  · simp only [Act.put, List.setIfInBounds_toArray, List.set_cons_zero, List.set_cons_succ, i64_w, i32_w]
    rfl
  refine take_ (i := 1) (N := some 39) (v := ?_) (a' := ?_) #[true, true, false, false, true, false, false, false, false, false] rfl rfl (take_ofW HT_.out HW_.out (by kernel_rfl)) (fun _ _ _ h => h) (Or.inl ⟨by rfl, ?_⟩) hHeld ?_ ?_
  rotate_left
  · rintro w' ⟨s0, s1, s2, s3, s4⟩
    go_simp
    with_reducible rfl
  rotate_left
  · simp only [Act.put, List.setIfInBounds_toArray, List.set_cons_zero, List.set_cons_succ, i64_w, i32_w]
    rfl
  refine take_ (i := 2) (N := some 40) (v := ?_) (a' := ?_) #[true, true, true, false, true, false, false, false, false, false] rfl rfl (take_ofW HT_.out HW_.out (by kernel_rfl)) (fun _ _ _ h => h) (Or.inl ⟨by rfl, ?_⟩) hHeld ?_ ?_
  rotate_left
  · rintro w' ⟨s0, s1, s2, s3, s4⟩
    go_simp
    with_reducible rfl
  rotate_left
  · simp only [Act.put, List.setIfInBounds_toArray, List.set_cons_zero, List.set_cons_succ, i64_w, i32_w]
    rfl
  refine take_ (i := 5) (N := some 43) (v := ?_) (a' := ?_) #[true, true, true, false, true, true, false, false, false, false] rfl rfl (take_ofW HT_.out HW_.out (by kernel_rfl)) (fun _ _ _ h => h) (Or.inl ⟨by rfl, ?_⟩) hHeld ?_ ?_
  rotate_left
  · rintro w' ⟨s0, s1, s2, s3, s4⟩
    go_simp
    with_reducible rfl
  rotate_left
  · simp only [Act.put, List.setIfInBounds_toArray, List.set_cons_zero, List.set_cons_succ, i64_w, i32_w]
    rfl
  refine one_ (i := 3) (N := some 41) #[true, true, true, true, true, true, false, false, false, false] rfl rfl (one_of HT_.out (by kernel_rfl)) (by decide) (fun K hK => ?_)
  refine goes_ Try.func9 (by kernel_rfl) rfl #[.agg #[.int .i64 (wrap64 (1 + (Int.tmod (wrap64 ((Int.tmod a0 4) + 4)) 4)))]] (by rfl) rfl rfl (by (try simp only [List.map_toArray, List.map_cons, List.map_nil]); first | done | rfl | (simp only [List.length_drop, List.length_take]; rfl)) ?_
  with_reducible refine (torus_Torus_Side.calls (wrap64 (1 + (Int.tmod (wrap64 ((Int.tmod a0 4) + 4)) 4))) t173 _ A8.out).mono ?_
  rintro e w34 ⟨rfl, hb⟩
  refine ⟨_, rfl, ?_⟩
  have n0_ := Aside0.mk (blk_below (g := gb162) (o := .cells #[.int .i64 a1_0, .int .i64 a1_1, .int .i64 a1_2, .int .i64 a1_3] 23 (0, 0)) (by (with_reducible repeat (first | refine blk_drewN ?_ _ | refine blk_drew ?_ | refine blk_alloc ?_ _)); exact BK162.out) hb)
  have n1_ := Aside0.mk (blk_below (g := gb163) (o := .cells #[.int .i64 t165, .int .i64 t166] 25 (0, 0)) (by (with_reducible repeat (first | refine blk_drewN ?_ _ | refine blk_drew ?_ | refine blk_alloc ?_ _)); exact BK163.out) hb)
  have n2_ := Aside0.mk (blk_below (g := gb164) (o := .cells #[.int .i64 (wrap64 (1 + (Int.tmod (wrap64 ((Int.tmod a0 4) + 4)) 4)))] 27 (0, 0)) (by (with_reducible repeat (first | refine blk_drewN ?_ _ | refine blk_drew ?_ | refine blk_alloc ?_ _)); exact BK164.out) hb)
  have n3_ := Aside0.mk (blk_below (g := gb171) (o := .cells #[.int .i64 t167, .int .i64 t168, .int .i64 ji7, .int .i64 t170] 29 (0, 0)) (by (with_reducible repeat (first | refine blk_drewN ?_ _ | refine blk_drew ?_ | refine blk_alloc ?_ _)); exact BK171.out) hb)
  have n4_ := Aside0.mk (below_step (by repeat (first | (with_reducible first | exact HB.out | apply below_alloc | apply pw_below_drewN | apply below_drew1 | refine below_set ?_ GE162.out | refine below_set ?_ GE163.out | refine below_set ?_ GE164.out | refine below_set ?_ GE171.out) | exact HB.out)) hb)
  clear BK162
  clear BK163
  clear BK164
  clear BK171
  clear HB
  have BK162 := n0_
  have BK163 := n1_
  have BK164 := n2_
  have BK171 := n3_
  have HB := n4_
  clear n0_ n1_ n2_ n3_ n4_
  (try clear hb)
  (try clear hb2)
  (try clear hk)
  (try clear hi)
  refine hK.out _ _ ⟨(blk_cell BK171.out 0).trans rfl, (blk_cell BK171.out 1).trans rfl, (blk_cell BK171.out 2).trans rfl, (blk_cell BK171.out 3).trans rfl, (blk_cell BK164.out 0).trans rfl⟩ (fun hHeld => ?_)
  clear hK K
  refine norm_ (a' := ?_) ?_ ?_
  rotate_left
  · show Act.put _ (some 41) _ = _
    simp only [Act.put, List.setIfInBounds_toArray, List.set_cons_zero, List.set_cons_succ, i64_w, i32_w]
    rfl
  refine pure_ (i := 6) (N := some 44) (v := ?_) (a' := ?_) #[true, true, true, true, true, true, true, false, false, false] rfl rfl (any_of HT_.out (by kernel_rfl)) (fun _ _ _ h => h) (Or.inl ⟨by rfl, ?_⟩) ?_ ?_
  rotate_left
  · intro w'
    go_simp
    with_reducible rfl
  rotate_left
  · simp only [Act.put, List.setIfInBounds_toArray, List.set_cons_zero, List.set_cons_succ, i64_w, i32_w]
    rfl
  refine pure_ (i := 7) (N := some 45) (v := ?_) (a' := ?_) #[true, true, true, true, true, true, true, true, false, false] rfl rfl (any_of HT_.out (by kernel_rfl)) (fun _ _ _ h => h) (Or.inl ⟨by rfl, ?_⟩) ?_ ?_
  rotate_left
  · intro w'
    go_simp
    with_reducible rfl
  rotate_left
  · simp only [Act.put, List.setIfInBounds_toArray, List.set_cons_zero, List.set_cons_succ, i64_w, i32_w]
    rfl
  refine pure_ (i := 8) (N := some 46) (v := ?_) (a' := ?_) #[true, true, true, true, true, true, true, true, true, false] rfl rfl (any_of HT_.out (by kernel_rfl)) (fun _ _ _ h => h) (Or.inl ⟨by rfl, ?_⟩) ?_ ?_
  rotate_left
  · intro w'
    go_simp
    with_reducible rfl
  rotate_left
  · simp only [Act.put, List.setIfInBounds_toArray, List.set_cons_zero, List.set_cons_succ, i64_w, i32_w]
    rfl
  refine last_ (i := 9) (N := none) #[true, true, true, true, true, true, true, true, true, true] rfl rfl (one_of HT_.out (by kernel_rfl)) (by decide) (fun K hK => ?_)
  have hs35 : w34.cell? ⟨gb171, 3, none⟩ = some (.int .i64 t170) := (blk_cell BK171.out 3).trans rfl
  have hfs35 := blk_frozen BK171.out 3
  have hns35_0 := NB162_171.out
  have hns35_1 := NB163_171.out
  have hns35_2 := NB164_171.out
  have hms35_0 := NB171_162.out
  have hms35_1 := NB171_163.out
  have hms35_2 := NB171_164.out
  refine skip_ (w1 := ?_) (by rfl) rfl ?_ ?_
  rotate_left
  · go_simp
    rfl
  refine hK.out _ _ ?_
  clear hK K
  refine done_ (done_of HT_.out (by kernel_rfl)) ?_
  try go_wp2
  go_loopg [9, 10] k (fun kq v9 v10 w' => ∃ (x9_1 : Int) (x10_1 : Int), v9 = .int .i64 x9_1 ∧ v10 = .int .i64 x10_1 ∧ Aside0 (glebelaw04_WindowDists.l0 kq x9_1 x10_1 t165 t166 (wrap64 (1 + (Int.tmod (wrap64 ((Int.tmod a0 4) + 4)) 4))) t167 t168 ji7 ji9 = some r) ∧ Aside0 (kq ≤ k) ∧ Aside0 (w'.heap[gb162]? = some (.cells #[.int .i64 a1_0, .int .i64 a1_1, .int .i64 a1_2, .int .i64 a1_3] 23 (0, 0))) ∧ Aside0 (w'.heap[gb163]? = some (.cells #[.int .i64 t165, .int .i64 t166] 25 (0, 0))) ∧ Aside0 (w'.heap[gb164]? = some (.cells #[.int .i64 (wrap64 (1 + (Int.tmod (wrap64 ((Int.tmod a0 4) + 4)) 4)))] 27 (0, 0))) ∧ Aside0 (w'.heap[gb171]? = some (.cells #[.int .i64 t167, .int .i64 t168, .int .i64 ji7, .int .i64 ji9] 29 (0, 0))) ∧ Aside0 (Below w.heap.size w w'))
  case atStart => exact ⟨((-1)), (0), (by first | rfl | (simp; done) | (simp [*]; done)), (by first | rfl | (simp; done) | (simp [*]; done)), H', ⟨Nat.le_refl _⟩, ⟨by (with_reducible repeat (first | refine blk_drewN ?_ _ | refine blk_drew ?_ | refine blk_alloc ?_ _)); refine blk_far ?_ NB162_171.out _; (with_reducible repeat (first | refine blk_drewN ?_ _ | refine blk_drew ?_ | refine blk_alloc ?_ _)); exact BK162.out⟩, ⟨by (with_reducible repeat (first | refine blk_drewN ?_ _ | refine blk_drew ?_ | refine blk_alloc ?_ _)); refine blk_far ?_ NB163_171.out _; (with_reducible repeat (first | refine blk_drewN ?_ _ | refine blk_drew ?_ | refine blk_alloc ?_ _)); exact BK163.out⟩, ⟨by (with_reducible repeat (first | refine blk_drewN ?_ _ | refine blk_drew ?_ | refine blk_alloc ?_ _)); refine blk_far ?_ NB164_171.out _; (with_reducible repeat (first | refine blk_drewN ?_ _ | refine blk_drew ?_ | refine blk_alloc ?_ _)); exact BK164.out⟩, ⟨by (with_reducible repeat (first | refine blk_drewN ?_ _ | refine blk_drew ?_ | refine blk_alloc ?_ _)); refine blk_put (cs := #[.int .i64 t167, .int .i64 t168, .int .i64 ji7, .int .i64 t170]) ?_ 3 _ rfl; (with_reducible repeat (first | refine blk_drewN ?_ _ | refine blk_drew ?_ | refine blk_alloc ?_ _)); exact BK171.out⟩, ⟨by repeat (first | (with_reducible first | exact HB.out | apply below_alloc | apply pw_below_drewN | apply below_drew1 | refine below_set ?_ GE162.out | refine below_set ?_ GE163.out | refine below_set ?_ GE164.out | refine below_set ?_ GE171.out) | exact HB.out)⟩⟩
  case round =>
    clear H'
    try clear c1
    try clear c2
    try clear p2
    try clear c3
    try clear p6
    try clear c7
    try clear c8
    try clear c9
    try clear c13
    try clear c14
    try clear c16
    try clear c24
    try clear c25
    try clear c26
    try clear hcz15_0
    try clear hcz17_0
    try clear hcz17_1
    try clear hcz19_0
    try clear hcz19_1
    try clear hcz20_0
    try clear hcz21_0
    try clear hcz21_1
    try clear hcz21_2
    try clear hcz21_3
    try clear hcz27_0
    try clear hcz27_1
    try clear hcz27_2
    try clear hcz27_3
    try clear hfz15_0
    try clear hfz17_0
    try clear hfz17_1
    try clear hfz19_0
    try clear hfz19_1
    try clear hfz20_0
    try clear hfz21_0
    try clear hfz21_1
    try clear hfz21_2
    try clear hfz21_3
    try clear hfz27_0
    try clear hfz27_1
    try clear hfz27_2
    try clear hfz27_3
    obtain ⟨x9_1, x10_1, rfl, rfl, HA, HK1, BK162, BK163, BK164, BK171, HB⟩ := hrel
    cases gk with
    | zero => exact absurd HA.out (by simp [glebelaw04_WindowDists.l0])
    | succ k1 =>
      have H := HA.out
      clear HA
      simp only [glebelaw04_WindowDists.l0] at H
      have HC36 := Aside0.mk H
      clear H
      go_upto_region 9 with (fail)
      go_cut [54] (fun v54 wc => ∃ (kq : Nat) (x54_35 : Bool), v54 = .bool x54_35 ∧ Aside0 (glebelaw04_WindowDists.j1 kq x9_1 x10_1 x54_35 t165 t166 (wrap64 (1 + (Int.tmod (wrap64 ((Int.tmod a0 4) + 4)) 4))) t167 t168 ji7 ji9 = some r) ∧ Aside0 (kq ≤ k1) ∧ Aside0 (wc.heap[gb162]? = some (.cells #[.int .i64 a1_0, .int .i64 a1_1, .int .i64 a1_2, .int .i64 a1_3] 23 (0, 0))) ∧ Aside0 (wc.heap[gb163]? = some (.cells #[.int .i64 t165, .int .i64 t166] 25 (0, 0))) ∧ Aside0 (wc.heap[gb164]? = some (.cells #[.int .i64 (wrap64 (1 + (Int.tmod (wrap64 ((Int.tmod a0 4) + 4)) 4)))] 27 (0, 0))) ∧ Aside0 (wc.heap[gb171]? = some (.cells #[.int .i64 t167, .int .i64 t168, .int .i64 ji7, .int .i64 ji9] 29 (0, 0))) ∧ Aside0 (Below w.heap.size w wc))
      case first =>
        have H := HC36.out
        clear HC36
        by_cases c37 : x10_1 < ji7
        · rw [if_pos c37] at H
          have c37b0 : decide (x10_1 < ji7) = true := decide_eq_true c37
          clear c37
          (first | rw [c37b0] | (simp only [i64_w, i32_w]; rw [c37b0]) | skip)
          have H' := Aside0.mk H
          clear H
          have hnb38 := NB171_162.out
          have hnc38 := NB162_171.out
          have hnb39 := NB171_163.out
          have hnc39 := NB163_171.out
          have hnb40 := NB171_164.out
          have hnc40 := NB164_171.out
          have hcz41_0 : wr.cell? ⟨gb171, 0, none⟩ = some (.int .i64 t167) := (blk_cell BK171.out 0).trans rfl
          have hcz41_1 : wr.cell? ⟨gb171, 1, none⟩ = some (.int .i64 t168) := (blk_cell BK171.out 1).trans rfl
          have hcz41_2 : wr.cell? ⟨gb171, 2, none⟩ = some (.int .i64 ji7) := (blk_cell BK171.out 2).trans rfl
          have hcz41_3 : wr.cell? ⟨gb171, 3, none⟩ = some (.int .i64 ji9) := (blk_cell BK171.out 3).trans rfl
          have hfz41_0 := blk_frozen BK171.out 0
          have hfz41_1 := blk_frozen BK171.out 1
          have hfz41_2 := blk_frozen BK171.out 2
          have hfz41_3 := blk_frozen BK171.out 3
          go_wp2
          go_meet
          case rel => exact ⟨_, (decide (x10_1 < 20)), (by first | rfl | (simp; done) | (simp [*]; done)), H', ⟨by have := HK1.out; first | omega | exact Nat.le_refl _⟩, ⟨by (with_reducible repeat (first | refine blk_drewN ?_ _ | refine blk_drew ?_ | refine blk_alloc ?_ _)); exact BK162.out⟩, ⟨by (with_reducible repeat (first | refine blk_drewN ?_ _ | refine blk_drew ?_ | refine blk_alloc ?_ _)); exact BK163.out⟩, ⟨by (with_reducible repeat (first | refine blk_drewN ?_ _ | refine blk_drew ?_ | refine blk_alloc ?_ _)); exact BK164.out⟩, ⟨by (with_reducible repeat (first | refine blk_drewN ?_ _ | refine blk_drew ?_ | refine blk_alloc ?_ _)); exact BK171.out⟩, ⟨by repeat (first | (with_reducible first | exact HB.out | apply below_alloc | apply pw_below_drewN | apply below_drew1 | refine below_set ?_ GE162.out | refine below_set ?_ GE163.out | refine below_set ?_ GE164.out | refine below_set ?_ GE171.out) | exact HB.out)⟩⟩
        · rw [if_neg c37] at H
          have c37b0 : decide (x10_1 < ji7) = false := decide_eq_false c37
          clear c37
          (first | rw [c37b0] | (simp only [i64_w, i32_w]; rw [c37b0]) | skip)
          have H' := Aside0.mk H
          clear H
          have hnb42 := NB171_162.out
          have hnc42 := NB162_171.out
          have hnb43 := NB171_163.out
          have hnc43 := NB163_171.out
          have hnb44 := NB171_164.out
          have hnc44 := NB164_171.out
          have hcz45_0 : wr.cell? ⟨gb171, 0, none⟩ = some (.int .i64 t167) := (blk_cell BK171.out 0).trans rfl
          have hcz45_1 : wr.cell? ⟨gb171, 1, none⟩ = some (.int .i64 t168) := (blk_cell BK171.out 1).trans rfl
          have hcz45_2 : wr.cell? ⟨gb171, 2, none⟩ = some (.int .i64 ji7) := (blk_cell BK171.out 2).trans rfl
          have hcz45_3 : wr.cell? ⟨gb171, 3, none⟩ = some (.int .i64 ji9) := (blk_cell BK171.out 3).trans rfl
          have hfz45_0 := blk_frozen BK171.out 0
          have hfz45_1 := blk_frozen BK171.out 1
          have hfz45_2 := blk_frozen BK171.out 2
          have hfz45_3 := blk_frozen BK171.out 3
          go_wp2
          go_meet
          case rel => exact ⟨_, (false), (by first | rfl | (simp; done) | (simp [*]; done)), H', ⟨by have := HK1.out; first | omega | exact Nat.le_refl _⟩, ⟨by (with_reducible repeat (first | refine blk_drewN ?_ _ | refine blk_drew ?_ | refine blk_alloc ?_ _)); exact BK162.out⟩, ⟨by (with_reducible repeat (first | refine blk_drewN ?_ _ | refine blk_drew ?_ | refine blk_alloc ?_ _)); exact BK163.out⟩, ⟨by (with_reducible repeat (first | refine blk_drewN ?_ _ | refine blk_drew ?_ | refine blk_alloc ?_ _)); exact BK164.out⟩, ⟨by (with_reducible repeat (first | refine blk_drewN ?_ _ | refine blk_drew ?_ | refine blk_alloc ?_ _)); exact BK171.out⟩, ⟨by repeat (first | (with_reducible first | exact HB.out | apply below_alloc | apply pw_below_drewN | apply below_drew1 | refine below_set ?_ GE162.out | refine below_set ?_ GE163.out | refine below_set ?_ GE164.out | refine below_set ?_ GE171.out) | exact HB.out)⟩⟩
      case rest =>
        clear HC36
        try clear c1
        try clear c2
        try clear p2
        try clear c3
        try clear c4
        try clear p6
        try clear c7
        try clear c8
        try clear c9
        try clear c13
        try clear c14
        try clear c16
        try clear c24
        try clear c25
        try clear c26
        try clear c37
        try clear c37b0
        try clear c38
        try clear c39
        try clear c40
        try clear c42
        try clear c43
        try clear c44
        try clear hcz15_0
        try clear hcz17_0
        try clear hcz17_1
        try clear hcz19_0
        try clear hcz19_1
        try clear hcz20_0
        try clear hcz21_0
        try clear hcz21_1
        try clear hcz21_2
        try clear hcz21_3
        try clear hcz27_0
        try clear hcz27_1
        try clear hcz27_2
        try clear hcz27_3
        try clear hcz41_0
        try clear hcz41_1
        try clear hcz41_2
        try clear hcz41_3
        try clear hcz45_0
        try clear hcz45_1
        try clear hcz45_2
        try clear hcz45_3
        try clear hfz15_0
        try clear hfz17_0
        try clear hfz17_1
        try clear hfz19_0
        try clear hfz19_1
        try clear hfz20_0
        try clear hfz21_0
        try clear hfz21_1
        try clear hfz21_2
        try clear hfz21_3
        try clear hfz27_0
        try clear hfz27_1
        try clear hfz27_2
        try clear hfz27_3
        try clear hfz41_0
        try clear hfz41_1
        try clear hfz41_2
        try clear hfz41_3
        try clear hfz45_0
        try clear hfz45_1
        try clear hfz45_2
        try clear hfz45_3
        try clear p2
        try clear p6
        obtain ⟨kq, x54_35, rfl, HA, HJ35, BK162, BK163, BK164, BK171, HB⟩ := hcut
        cases kq with
        | zero => exact absurd HA.out (by simp [glebelaw04_WindowDists.j1])
        | succ kj35 =>
          have H := HA.out
          clear HA
          simp only [glebelaw04_WindowDists.j1] at H
          by_cases c46 : x54_35 = true
          · subst c46
            have H1 : (glebelaw04_WindowDists.l1 kj35 x9_1 x10_1 0 t165 t166 (wrap64 (1 + (Int.tmod (wrap64 ((Int.tmod a0 4) + 4)) 4))) t167 t168 ji7 ji9) = some r := by rw [if_pos rfl] at H; exact H
            clear H
            have H := H1
            clear H1
            have H' := Aside0.mk H
            clear H
            go_wp2
            go_loopg [9, 11] kj35 (fun kq v9 v11 w' => ∃ (x9_3 : Int) (x11_3 : Int), v9 = .int .i64 x9_3 ∧ v11 = .int .i64 x11_3 ∧ Aside0 (glebelaw04_WindowDists.l1 kq x9_3 x10_1 x11_3 t165 t166 (wrap64 (1 + (Int.tmod (wrap64 ((Int.tmod a0 4) + 4)) 4))) t167 t168 ji7 ji9 = some r) ∧ Aside0 (kq ≤ kj35) ∧ Aside0 (w'.heap[gb162]? = some (.cells #[.int .i64 a1_0, .int .i64 a1_1, .int .i64 a1_2, .int .i64 a1_3] 23 (0, 0))) ∧ Aside0 (w'.heap[gb163]? = some (.cells #[.int .i64 t165, .int .i64 t166] 25 (0, 0))) ∧ Aside0 (w'.heap[gb164]? = some (.cells #[.int .i64 (wrap64 (1 + (Int.tmod (wrap64 ((Int.tmod a0 4) + 4)) 4)))] 27 (0, 0))) ∧ Aside0 (w'.heap[gb171]? = some (.cells #[.int .i64 t167, .int .i64 t168, .int .i64 ji7, .int .i64 ji9] 29 (0, 0))) ∧ Aside0 (Below w.heap.size w w'))
            case atStart => exact ⟨(x9_1), (0), (by first | rfl | (simp; done) | (simp [*]; done)), (by first | rfl | (simp; done) | (simp [*]; done)), H', ⟨Nat.le_refl _⟩, ⟨by (with_reducible repeat (first | refine blk_drewN ?_ _ | refine blk_drew ?_ | refine blk_alloc ?_ _)); exact BK162.out⟩, ⟨by (with_reducible repeat (first | refine blk_drewN ?_ _ | refine blk_drew ?_ | refine blk_alloc ?_ _)); exact BK163.out⟩, ⟨by (with_reducible repeat (first | refine blk_drewN ?_ _ | refine blk_drew ?_ | refine blk_alloc ?_ _)); exact BK164.out⟩, ⟨by (with_reducible repeat (first | refine blk_drewN ?_ _ | refine blk_drew ?_ | refine blk_alloc ?_ _)); exact BK171.out⟩, ⟨by repeat (first | (with_reducible first | exact HB.out | apply below_alloc | apply pw_below_drewN | apply below_drew1 | refine below_set ?_ GE162.out | refine below_set ?_ GE163.out | refine below_set ?_ GE164.out | refine below_set ?_ GE171.out) | exact HB.out)⟩⟩
            case round =>
              clear H'
              try clear c1
              try clear c2
              try clear p2
              try clear c3
              try clear c4
              try clear p6
              try clear c7
              try clear c8
              try clear c9
              try clear c13
              try clear c14
              try clear c16
              try clear c24
              try clear c25
              try clear c26
              try clear c37
              try clear c37b0
              try clear c38
              try clear c39
              try clear c40
              try clear c42
              try clear c43
              try clear c44
              try clear c46
              try clear hcz15_0
              try clear hcz17_0
              try clear hcz17_1
              try clear hcz19_0
              try clear hcz19_1
              try clear hcz20_0
              try clear hcz21_0
              try clear hcz21_1
              try clear hcz21_2
              try clear hcz21_3
              try clear hcz27_0
              try clear hcz27_1
              try clear hcz27_2
              try clear hcz27_3
              try clear hcz41_0
              try clear hcz41_1
              try clear hcz41_2
              try clear hcz41_3
              try clear hcz45_0
              try clear hcz45_1
              try clear hcz45_2
              try clear hcz45_3
              try clear hfz15_0
              try clear hfz17_0
              try clear hfz17_1
              try clear hfz19_0
              try clear hfz19_1
              try clear hfz20_0
              try clear hfz21_0
              try clear hfz21_1
              try clear hfz21_2
              try clear hfz21_3
              try clear hfz27_0
              try clear hfz27_1
              try clear hfz27_2
              try clear hfz27_3
              try clear hfz41_0
              try clear hfz41_1
              try clear hfz41_2
              try clear hfz41_3
              try clear hfz45_0
              try clear hfz45_1
              try clear hfz45_2
              try clear hfz45_3
              try clear p2
              try clear p6
              obtain ⟨x9_3, x11_3, rfl, rfl, HA, HK3, BK162, BK163, BK164, BK171, HB⟩ := hrel
              cases gk with
              | zero => exact absurd HA.out (by simp [glebelaw04_WindowDists.l1])
              | succ k3 =>
                have H := HA.out
                clear HA
                simp only [glebelaw04_WindowDists.l1] at H
                have HC47 := Aside0.mk H
                clear H
                go_upto_region 12 with (fail)
                go_cut [64] (fun v64 wc => ∃ (kq : Nat) (x64_46 : Bool), v64 = .bool x64_46 ∧ Aside0 (glebelaw04_WindowDists.j3 kq x9_3 x10_1 x11_3 x64_46 t165 t166 (wrap64 (1 + (Int.tmod (wrap64 ((Int.tmod a0 4) + 4)) 4))) t167 t168 ji7 ji9 = some r) ∧ Aside0 (kq ≤ k3) ∧ Aside0 (wc.heap[gb162]? = some (.cells #[.int .i64 a1_0, .int .i64 a1_1, .int .i64 a1_2, .int .i64 a1_3] 23 (0, 0))) ∧ Aside0 (wc.heap[gb163]? = some (.cells #[.int .i64 t165, .int .i64 t166] 25 (0, 0))) ∧ Aside0 (wc.heap[gb164]? = some (.cells #[.int .i64 (wrap64 (1 + (Int.tmod (wrap64 ((Int.tmod a0 4) + 4)) 4)))] 27 (0, 0))) ∧ Aside0 (wc.heap[gb171]? = some (.cells #[.int .i64 t167, .int .i64 t168, .int .i64 ji7, .int .i64 ji9] 29 (0, 0))) ∧ Aside0 (Below w.heap.size w wc))
                case first =>
                  have H := HC47.out
                  clear HC47
                  by_cases c48 : x11_3 < ji9
                  · rw [if_pos c48] at H
                    have c48b0 : decide (x11_3 < ji9) = true := decide_eq_true c48
                    clear c48
                    (first | rw [c48b0] | (simp only [i64_w, i32_w]; rw [c48b0]) | skip)
                    have H' := Aside0.mk H
                    clear H
                    have hnb49 := NB171_162.out
                    have hnc49 := NB162_171.out
                    have hnb50 := NB171_163.out
                    have hnc50 := NB163_171.out
                    have hnb51 := NB171_164.out
                    have hnc51 := NB164_171.out
                    have hcz52_0 : wr.cell? ⟨gb171, 0, none⟩ = some (.int .i64 t167) := (blk_cell BK171.out 0).trans rfl
                    have hcz52_1 : wr.cell? ⟨gb171, 1, none⟩ = some (.int .i64 t168) := (blk_cell BK171.out 1).trans rfl
                    have hcz52_2 : wr.cell? ⟨gb171, 2, none⟩ = some (.int .i64 ji7) := (blk_cell BK171.out 2).trans rfl
                    have hcz52_3 : wr.cell? ⟨gb171, 3, none⟩ = some (.int .i64 ji9) := (blk_cell BK171.out 3).trans rfl
                    have hfz52_0 := blk_frozen BK171.out 0
                    have hfz52_1 := blk_frozen BK171.out 1
                    have hfz52_2 := blk_frozen BK171.out 2
                    have hfz52_3 := blk_frozen BK171.out 3
                    go_wp2
                    go_meet
                    case rel => exact ⟨_, (decide (x11_3 < 20)), (by first | rfl | (simp; done) | (simp [*]; done)), H', ⟨by have := HK1.out; have := HJ35.out; have := HK3.out; first | omega | exact Nat.le_refl _⟩, ⟨by (with_reducible repeat (first | refine blk_drewN ?_ _ | refine blk_drew ?_ | refine blk_alloc ?_ _)); exact BK162.out⟩, ⟨by (with_reducible repeat (first | refine blk_drewN ?_ _ | refine blk_drew ?_ | refine blk_alloc ?_ _)); exact BK163.out⟩, ⟨by (with_reducible repeat (first | refine blk_drewN ?_ _ | refine blk_drew ?_ | refine blk_alloc ?_ _)); exact BK164.out⟩, ⟨by (with_reducible repeat (first | refine blk_drewN ?_ _ | refine blk_drew ?_ | refine blk_alloc ?_ _)); exact BK171.out⟩, ⟨by repeat (first | (with_reducible first | exact HB.out | apply below_alloc | apply pw_below_drewN | apply below_drew1 | refine below_set ?_ GE162.out | refine below_set ?_ GE163.out | refine below_set ?_ GE164.out | refine below_set ?_ GE171.out) | exact HB.out)⟩⟩
                  · rw [if_neg c48] at H
                    have c48b0 : decide (x11_3 < ji9) = false := decide_eq_false c48
                    clear c48
                    (first | rw [c48b0] | (simp only [i64_w, i32_w]; rw [c48b0]) | skip)
                    have H' := Aside0.mk H
                    clear H
                    have hnb53 := NB171_162.out
                    have hnc53 := NB162_171.out
                    have hnb54 := NB171_163.out
                    have hnc54 := NB163_171.out
                    have hnb55 := NB171_164.out
                    have hnc55 := NB164_171.out
                    have hcz56_0 : wr.cell? ⟨gb171, 0, none⟩ = some (.int .i64 t167) := (blk_cell BK171.out 0).trans rfl
                    have hcz56_1 : wr.cell? ⟨gb171, 1, none⟩ = some (.int .i64 t168) := (blk_cell BK171.out 1).trans rfl
                    have hcz56_2 : wr.cell? ⟨gb171, 2, none⟩ = some (.int .i64 ji7) := (blk_cell BK171.out 2).trans rfl
                    have hcz56_3 : wr.cell? ⟨gb171, 3, none⟩ = some (.int .i64 ji9) := (blk_cell BK171.out 3).trans rfl
                    have hfz56_0 := blk_frozen BK171.out 0
                    have hfz56_1 := blk_frozen BK171.out 1
                    have hfz56_2 := blk_frozen BK171.out 2
                    have hfz56_3 := blk_frozen BK171.out 3
                    go_wp2
                    go_meet
                    case rel => exact ⟨_, (false), (by first | rfl | (simp; done) | (simp [*]; done)), H', ⟨by have := HK1.out; have := HJ35.out; have := HK3.out; first | omega | exact Nat.le_refl _⟩, ⟨by (with_reducible repeat (first | refine blk_drewN ?_ _ | refine blk_drew ?_ | refine blk_alloc ?_ _)); exact BK162.out⟩, ⟨by (with_reducible repeat (first | refine blk_drewN ?_ _ | refine blk_drew ?_ | refine blk_alloc ?_ _)); exact BK163.out⟩, ⟨by (with_reducible repeat (first | refine blk_drewN ?_ _ | refine blk_drew ?_ | refine blk_alloc ?_ _)); exact BK164.out⟩, ⟨by (with_reducible repeat (first | refine blk_drewN ?_ _ | refine blk_drew ?_ | refine blk_alloc ?_ _)); exact BK171.out⟩, ⟨by repeat (first | (with_reducible first | exact HB.out | apply below_alloc | apply pw_below_drewN | apply below_drew1 | refine below_set ?_ GE162.out | refine below_set ?_ GE163.out | refine below_set ?_ GE164.out | refine below_set ?_ GE171.out) | exact HB.out)⟩⟩
                case rest =>
                  clear HC47
                  try clear c1
                  try clear c2
                  try clear p2
                  try clear c3
                  try clear c4
                  try clear c5
                  try clear p6
                  try clear c7
                  try clear c8
                  try clear c9
                  try clear c13
                  try clear c14
                  try clear c16
                  try clear c24
                  try clear c25
                  try clear c26
                  try clear c37
                  try clear c37b0
                  try clear c38
                  try clear c39
                  try clear c40
                  try clear c42
                  try clear c43
                  try clear c44
                  try clear c46
                  try clear c48
                  try clear c48b0
                  try clear c49
                  try clear c50
                  try clear c51
                  try clear c53
                  try clear c54
                  try clear c55
                  try clear hcz15_0
                  try clear hcz17_0
                  try clear hcz17_1
                  try clear hcz19_0
                  try clear hcz19_1
                  try clear hcz20_0
                  try clear hcz21_0
                  try clear hcz21_1
                  try clear hcz21_2
                  try clear hcz21_3
                  try clear hcz27_0
                  try clear hcz27_1
                  try clear hcz27_2
                  try clear hcz27_3
                  try clear hcz41_0
                  try clear hcz41_1
                  try clear hcz41_2
                  try clear hcz41_3
                  try clear hcz45_0
                  try clear hcz45_1
                  try clear hcz45_2
                  try clear hcz45_3
                  try clear hcz52_0
                  try clear hcz52_1
                  try clear hcz52_2
                  try clear hcz52_3
                  try clear hcz56_0
                  try clear hcz56_1
                  try clear hcz56_2
                  try clear hcz56_3
                  try clear hfz15_0
                  try clear hfz17_0
                  try clear hfz17_1
                  try clear hfz19_0
                  try clear hfz19_1
                  try clear hfz20_0
                  try clear hfz21_0
                  try clear hfz21_1
                  try clear hfz21_2
                  try clear hfz21_3
                  try clear hfz27_0
                  try clear hfz27_1
                  try clear hfz27_2
                  try clear hfz27_3
                  try clear hfz41_0
                  try clear hfz41_1
                  try clear hfz41_2
                  try clear hfz41_3
                  try clear hfz45_0
                  try clear hfz45_1
                  try clear hfz45_2
                  try clear hfz45_3
                  try clear hfz52_0
                  try clear hfz52_1
                  try clear hfz52_2
                  try clear hfz52_3
                  try clear hfz56_0
                  try clear hfz56_1
                  try clear hfz56_2
                  try clear hfz56_3
                  try clear p2
                  try clear p6
                  obtain ⟨kq, x64_46, rfl, HA, HJ46, BK162, BK163, BK164, BK171, HB⟩ := hcut
                  cases kq with
                  | zero => exact absurd HA.out (by simp [glebelaw04_WindowDists.j3])
                  | succ kj46 =>
                    have H := HA.out
                    clear HA
                    simp only [glebelaw04_WindowDists.j3] at H
                    by_cases c57 : x64_46 = true
                    · subst c57
                      have H1 : ((torus_Torus_Dist.f kj46 (wrap64 (1 + (Int.tmod (wrap64 ((Int.tmod a0 4) + 4)) 4))) t165 t166 (wrap64 (t167 + x10_1)) (wrap64 (t168 + x11_3))).bind fun t176 => (if x9_3 < 0 then (glebelaw04_WindowDists.l1 kj46 t176 x10_1 (wrap64 (x11_3 + 1)) t165 t166 (wrap64 (1 + (Int.tmod (wrap64 ((Int.tmod a0 4) + 4)) 4))) t167 t168 ji7 ji9) else (if t176 < x9_3 then (glebelaw04_WindowDists.l1 kj46 t176 x10_1 (wrap64 (x11_3 + 1)) t165 t166 (wrap64 (1 + (Int.tmod (wrap64 ((Int.tmod a0 4) + 4)) 4))) t167 t168 ji7 ji9) else (glebelaw04_WindowDists.l1 kj46 x9_3 x10_1 (wrap64 (x11_3 + 1)) t165 t166 (wrap64 (1 + (Int.tmod (wrap64 ((Int.tmod a0 4) + 4)) 4))) t167 t168 ji7 ji9)))) = some r := by rw [if_pos rfl] at H; exact H
                      clear H
                      have H := H1
                      clear H1
                      replace H := Option.bind_eq_some_iff.mp H
                      obtain ⟨t176, A580, H⟩ := H
                      replace H : (if x9_3 < 0 then (glebelaw04_WindowDists.l1 kj46 t176 x10_1 (wrap64 (x11_3 + 1)) t165 t166 (wrap64 (1 + (Int.tmod (wrap64 ((Int.tmod a0 4) + 4)) 4))) t167 t168 ji7 ji9) else (if t176 < x9_3 then (glebelaw04_WindowDists.l1 kj46 t176 x10_1 (wrap64 (x11_3 + 1)) t165 t166 (wrap64 (1 + (Int.tmod (wrap64 ((Int.tmod a0 4) + 4)) 4))) t167 t168 ji7 ji9) else (glebelaw04_WindowDists.l1 kj46 x9_3 x10_1 (wrap64 (x11_3 + 1)) t165 t166 (wrap64 (1 + (Int.tmod (wrap64 ((Int.tmod a0 4) + 4)) 4))) t167 t168 ji7 ji9))) = some r := H
                      have A58 := Aside0.mk A580
                      clear A580
                      by_cases c59 : x9_3 < 0
                      · rw [if_pos c59] at H
                        have c59b0 : decide (x9_3 < 0) = true := decide_eq_true c59
                        clear c59
                        have H' := Aside0.mk H
                        clear H
                        have hnb60 := NB164_162.out
                        have hnc60 := NB162_164.out
                        have hnb61 := NB164_163.out
                        have hnc61 := NB163_164.out
                        have hnb62 := NB164_171.out
                        have hnc62 := NB171_164.out
                        have hcz63_0 : wc.cell? ⟨gb164, 0, none⟩ = some (.int .i64 (wrap64 (1 + (Int.tmod (wrap64 ((Int.tmod a0 4) + 4)) 4)))) := (blk_cell BK164.out 0).trans rfl
                        have hfz63_0 := blk_frozen BK164.out 0
                        have hnb64 := NB163_162.out
                        have hnc64 := NB162_163.out
                        have hnb65 := NB163_171.out
                        have hnc65 := NB171_163.out
                        have hcz66_0 : wc.cell? ⟨gb163, 0, none⟩ = some (.int .i64 t165) := (blk_cell BK163.out 0).trans rfl
                        have hcz66_1 : wc.cell? ⟨gb163, 1, none⟩ = some (.int .i64 t166) := (blk_cell BK163.out 1).trans rfl
                        have hfz66_0 := blk_frozen BK163.out 0
                        have hfz66_1 := blk_frozen BK163.out 1
                        have hnb67 := NB171_162.out
                        have hnc67 := NB162_171.out
                        have hcz68_0 : wc.cell? ⟨gb171, 0, none⟩ = some (.int .i64 t167) := (blk_cell BK171.out 0).trans rfl
                        have hcz68_1 : wc.cell? ⟨gb171, 1, none⟩ = some (.int .i64 t168) := (blk_cell BK171.out 1).trans rfl
                        have hcz68_2 : wc.cell? ⟨gb171, 2, none⟩ = some (.int .i64 ji7) := (blk_cell BK171.out 2).trans rfl
                        have hcz68_3 : wc.cell? ⟨gb171, 3, none⟩ = some (.int .i64 ji9) := (blk_cell BK171.out 3).trans rfl
                        have hfz68_0 := blk_frozen BK171.out 0
                        have hfz68_1 := blk_frozen BK171.out 1
                        have hfz68_2 := blk_frozen BK171.out 2
                        have hfz68_3 := blk_frozen BK171.out 3
                        go_wp2_with (first | ((with_reducible refine gate_callee (f := 10) rfl ?_); refine goesL_ (some 78) rfl rfl Try.func10 (by kernel_rfl) rfl #[.agg #[.int .i64 (wrap64 (1 + (Int.tmod (wrap64 ((Int.tmod a0 4) + 4)) 4)))], .agg #[.int .i64 t165, .int .i64 t166], .agg #[.int .i64 (wrap64 (t167 + x10_1)), .int .i64 (wrap64 (t168 + x11_3))]] rfl (by (try simp only [List.map_toArray, List.map_cons, List.map_nil]); first | done | rfl | (simp only [List.length_drop, List.length_take]; rfl)) ?_; (with_reducible refine (torus_Torus_Dist.calls kj46 (wrap64 (1 + (Int.tmod (wrap64 ((Int.tmod a0 4) + 4)) 4))) t165 t166 (wrap64 (t167 + x10_1)) (wrap64 (t168 + x11_3)) t176 _ A58.out).mono ?_); rintro e w69 ⟨rfl, hb⟩; refine ⟨_, rfl, ?_⟩; have n0_ := Aside0.mk (blk_below (g := gb162) (o := .cells #[.int .i64 a1_0, .int .i64 a1_1, .int .i64 a1_2, .int .i64 a1_3] 23 (0, 0)) (by (with_reducible repeat (first | refine blk_drewN ?_ _ | refine blk_drew ?_ | refine blk_alloc ?_ _)); exact BK162.out) hb); have n1_ := Aside0.mk (blk_below (g := gb163) (o := .cells #[.int .i64 t165, .int .i64 t166] 25 (0, 0)) (by (with_reducible repeat (first | refine blk_drewN ?_ _ | refine blk_drew ?_ | refine blk_alloc ?_ _)); exact BK163.out) hb); have n2_ := Aside0.mk (blk_below (g := gb164) (o := .cells #[.int .i64 (wrap64 (1 + (Int.tmod (wrap64 ((Int.tmod a0 4) + 4)) 4)))] 27 (0, 0)) (by (with_reducible repeat (first | refine blk_drewN ?_ _ | refine blk_drew ?_ | refine blk_alloc ?_ _)); exact BK164.out) hb); have n3_ := Aside0.mk (blk_below (g := gb171) (o := .cells #[.int .i64 t167, .int .i64 t168, .int .i64 ji7, .int .i64 ji9] 29 (0, 0)) (by (with_reducible repeat (first | refine blk_drewN ?_ _ | refine blk_drew ?_ | refine blk_alloc ?_ _)); exact BK171.out) hb); have n4_ := Aside0.mk (below_step (by repeat (first | (with_reducible first | exact HB.out | apply below_alloc | apply pw_below_drewN | apply below_drew1 | refine below_set ?_ GE162.out | refine below_set ?_ GE163.out | refine below_set ?_ GE164.out | refine below_set ?_ GE171.out) | exact HB.out)) hb); clear BK162; clear BK163; clear BK164; clear BK171; clear HB; have BK162 := n0_; have BK163 := n1_; have BK164 := n2_; have BK171 := n3_; have HB := n4_; clear n0_ n1_ n2_ n3_ n4_; (try clear hb); (try clear hb2); (try clear hk); (try clear hi)))
                        go_roundg kj46
                        case measure => have := HK1.out; have := HJ35.out; have := HK3.out; have := HJ46.out; omega
                        case rel => exact ⟨(t176), (wrap64 (x11_3 + 1)), (by first | rfl | (simp; done) | (simp [*]; done)), (by first | rfl | (simp; done) | (simp [*]; done)), H', ⟨by have := HK1.out; have := HJ35.out; have := HK3.out; have := HJ46.out; omega⟩, ⟨by (with_reducible repeat (first | refine blk_drewN ?_ _ | refine blk_drew ?_ | refine blk_alloc ?_ _)); exact BK162.out⟩, ⟨by (with_reducible repeat (first | refine blk_drewN ?_ _ | refine blk_drew ?_ | refine blk_alloc ?_ _)); exact BK163.out⟩, ⟨by (with_reducible repeat (first | refine blk_drewN ?_ _ | refine blk_drew ?_ | refine blk_alloc ?_ _)); exact BK164.out⟩, ⟨by (with_reducible repeat (first | refine blk_drewN ?_ _ | refine blk_drew ?_ | refine blk_alloc ?_ _)); exact BK171.out⟩, ⟨by repeat (first | (with_reducible first | exact HB.out | apply below_alloc | apply pw_below_drewN | apply below_drew1 | refine below_set ?_ GE162.out | refine below_set ?_ GE163.out | refine below_set ?_ GE164.out | refine below_set ?_ GE171.out) | exact HB.out)⟩⟩
                      · rw [if_neg c59] at H
                        have c59b0 : decide (x9_3 < 0) = false := decide_eq_false c59
                        clear c59
                        by_cases c70 : t176 < x9_3
                        · rw [if_pos c70] at H
                          have c70b0 : decide (t176 < x9_3) = true := decide_eq_true c70
                          clear c70
                          have H' := Aside0.mk H
                          clear H
                          have hnb71 := NB164_162.out
                          have hnc71 := NB162_164.out
                          have hnb72 := NB164_163.out
                          have hnc72 := NB163_164.out
                          have hnb73 := NB164_171.out
                          have hnc73 := NB171_164.out
                          have hcz74_0 : wc.cell? ⟨gb164, 0, none⟩ = some (.int .i64 (wrap64 (1 + (Int.tmod (wrap64 ((Int.tmod a0 4) + 4)) 4)))) := (blk_cell BK164.out 0).trans rfl
                          have hfz74_0 := blk_frozen BK164.out 0
                          have hnb75 := NB163_162.out
                          have hnc75 := NB162_163.out
                          have hnb76 := NB163_171.out
                          have hnc76 := NB171_163.out
                          have hcz77_0 : wc.cell? ⟨gb163, 0, none⟩ = some (.int .i64 t165) := (blk_cell BK163.out 0).trans rfl
                          have hcz77_1 : wc.cell? ⟨gb163, 1, none⟩ = some (.int .i64 t166) := (blk_cell BK163.out 1).trans rfl
                          have hfz77_0 := blk_frozen BK163.out 0
                          have hfz77_1 := blk_frozen BK163.out 1
                          have hnb78 := NB171_162.out
                          have hnc78 := NB162_171.out
                          have hcz79_0 : wc.cell? ⟨gb171, 0, none⟩ = some (.int .i64 t167) := (blk_cell BK171.out 0).trans rfl
                          have hcz79_1 : wc.cell? ⟨gb171, 1, none⟩ = some (.int .i64 t168) := (blk_cell BK171.out 1).trans rfl
                          have hcz79_2 : wc.cell? ⟨gb171, 2, none⟩ = some (.int .i64 ji7) := (blk_cell BK171.out 2).trans rfl
                          have hcz79_3 : wc.cell? ⟨gb171, 3, none⟩ = some (.int .i64 ji9) := (blk_cell BK171.out 3).trans rfl
                          have hfz79_0 := blk_frozen BK171.out 0
                          have hfz79_1 := blk_frozen BK171.out 1
                          have hfz79_2 := blk_frozen BK171.out 2
                          have hfz79_3 := blk_frozen BK171.out 3
                          go_wp2_with (first | ((with_reducible refine gate_callee (f := 10) rfl ?_); refine goesL_ (some 78) rfl rfl Try.func10 (by kernel_rfl) rfl #[.agg #[.int .i64 (wrap64 (1 + (Int.tmod (wrap64 ((Int.tmod a0 4) + 4)) 4)))], .agg #[.int .i64 t165, .int .i64 t166], .agg #[.int .i64 (wrap64 (t167 + x10_1)), .int .i64 (wrap64 (t168 + x11_3))]] rfl (by (try simp only [List.map_toArray, List.map_cons, List.map_nil]); first | done | rfl | (simp only [List.length_drop, List.length_take]; rfl)) ?_; (with_reducible refine (torus_Torus_Dist.calls kj46 (wrap64 (1 + (Int.tmod (wrap64 ((Int.tmod a0 4) + 4)) 4))) t165 t166 (wrap64 (t167 + x10_1)) (wrap64 (t168 + x11_3)) t176 _ A58.out).mono ?_); rintro e w80 ⟨rfl, hb⟩; refine ⟨_, rfl, ?_⟩; have n0_ := Aside0.mk (blk_below (g := gb162) (o := .cells #[.int .i64 a1_0, .int .i64 a1_1, .int .i64 a1_2, .int .i64 a1_3] 23 (0, 0)) (by (with_reducible repeat (first | refine blk_drewN ?_ _ | refine blk_drew ?_ | refine blk_alloc ?_ _)); exact BK162.out) hb); have n1_ := Aside0.mk (blk_below (g := gb163) (o := .cells #[.int .i64 t165, .int .i64 t166] 25 (0, 0)) (by (with_reducible repeat (first | refine blk_drewN ?_ _ | refine blk_drew ?_ | refine blk_alloc ?_ _)); exact BK163.out) hb); have n2_ := Aside0.mk (blk_below (g := gb164) (o := .cells #[.int .i64 (wrap64 (1 + (Int.tmod (wrap64 ((Int.tmod a0 4) + 4)) 4)))] 27 (0, 0)) (by (with_reducible repeat (first | refine blk_drewN ?_ _ | refine blk_drew ?_ | refine blk_alloc ?_ _)); exact BK164.out) hb); have n3_ := Aside0.mk (blk_below (g := gb171) (o := .cells #[.int .i64 t167, .int .i64 t168, .int .i64 ji7, .int .i64 ji9] 29 (0, 0)) (by (with_reducible repeat (first | refine blk_drewN ?_ _ | refine blk_drew ?_ | refine blk_alloc ?_ _)); exact BK171.out) hb); have n4_ := Aside0.mk (below_step (by repeat (first | (with_reducible first | exact HB.out | apply below_alloc | apply pw_below_drewN | apply below_drew1 | refine below_set ?_ GE162.out | refine below_set ?_ GE163.out | refine below_set ?_ GE164.out | refine below_set ?_ GE171.out) | exact HB.out)) hb); clear BK162; clear BK163; clear BK164; clear BK171; clear HB; have BK162 := n0_; have BK163 := n1_; have BK164 := n2_; have BK171 := n3_; have HB := n4_; clear n0_ n1_ n2_ n3_ n4_; (try clear hb); (try clear hb2); (try clear hk); (try clear hi)))
                          go_roundg kj46
                          case measure => have := HK1.out; have := HJ35.out; have := HK3.out; have := HJ46.out; omega
                          case rel => exact ⟨(t176), (wrap64 (x11_3 + 1)), (by first | rfl | (simp; done) | (simp [*]; done)), (by first | rfl | (simp; done) | (simp [*]; done)), H', ⟨by have := HK1.out; have := HJ35.out; have := HK3.out; have := HJ46.out; omega⟩, ⟨by (with_reducible repeat (first | refine blk_drewN ?_ _ | refine blk_drew ?_ | refine blk_alloc ?_ _)); exact BK162.out⟩, ⟨by (with_reducible repeat (first | refine blk_drewN ?_ _ | refine blk_drew ?_ | refine blk_alloc ?_ _)); exact BK163.out⟩, ⟨by (with_reducible repeat (first | refine blk_drewN ?_ _ | refine blk_drew ?_ | refine blk_alloc ?_ _)); exact BK164.out⟩, ⟨by (with_reducible repeat (first | refine blk_drewN ?_ _ | refine blk_drew ?_ | refine blk_alloc ?_ _)); exact BK171.out⟩, ⟨by repeat (first | (with_reducible first | exact HB.out | apply below_alloc | apply pw_below_drewN | apply below_drew1 | refine below_set ?_ GE162.out | refine below_set ?_ GE163.out | refine below_set ?_ GE164.out | refine below_set ?_ GE171.out) | exact HB.out)⟩⟩
                        · rw [if_neg c70] at H
                          have c70b0 : decide (t176 < x9_3) = false := decide_eq_false c70
                          clear c70
                          have H' := Aside0.mk H
                          clear H
                          have hnb81 := NB164_162.out
                          have hnc81 := NB162_164.out
                          have hnb82 := NB164_163.out
                          have hnc82 := NB163_164.out
                          have hnb83 := NB164_171.out
                          have hnc83 := NB171_164.out
                          have hcz84_0 : wc.cell? ⟨gb164, 0, none⟩ = some (.int .i64 (wrap64 (1 + (Int.tmod (wrap64 ((Int.tmod a0 4) + 4)) 4)))) := (blk_cell BK164.out 0).trans rfl
                          have hfz84_0 := blk_frozen BK164.out 0
                          have hnb85 := NB163_162.out
                          have hnc85 := NB162_163.out
                          have hnb86 := NB163_171.out
                          have hnc86 := NB171_163.out
                          have hcz87_0 : wc.cell? ⟨gb163, 0, none⟩ = some (.int .i64 t165) := (blk_cell BK163.out 0).trans rfl
                          have hcz87_1 : wc.cell? ⟨gb163, 1, none⟩ = some (.int .i64 t166) := (blk_cell BK163.out 1).trans rfl
                          have hfz87_0 := blk_frozen BK163.out 0
                          have hfz87_1 := blk_frozen BK163.out 1
                          have hnb88 := NB171_162.out
                          have hnc88 := NB162_171.out
                          have hcz89_0 : wc.cell? ⟨gb171, 0, none⟩ = some (.int .i64 t167) := (blk_cell BK171.out 0).trans rfl
                          have hcz89_1 : wc.cell? ⟨gb171, 1, none⟩ = some (.int .i64 t168) := (blk_cell BK171.out 1).trans rfl
                          have hcz89_2 : wc.cell? ⟨gb171, 2, none⟩ = some (.int .i64 ji7) := (blk_cell BK171.out 2).trans rfl
                          have hcz89_3 : wc.cell? ⟨gb171, 3, none⟩ = some (.int .i64 ji9) := (blk_cell BK171.out 3).trans rfl
                          have hfz89_0 := blk_frozen BK171.out 0
                          have hfz89_1 := blk_frozen BK171.out 1
                          have hfz89_2 := blk_frozen BK171.out 2
                          have hfz89_3 := blk_frozen BK171.out 3
                          go_wp2_with (first | ((with_reducible refine gate_callee (f := 10) rfl ?_); refine goesL_ (some 78) rfl rfl Try.func10 (by kernel_rfl) rfl #[.agg #[.int .i64 (wrap64 (1 + (Int.tmod (wrap64 ((Int.tmod a0 4) + 4)) 4)))], .agg #[.int .i64 t165, .int .i64 t166], .agg #[.int .i64 (wrap64 (t167 + x10_1)), .int .i64 (wrap64 (t168 + x11_3))]] rfl (by (try simp only [List.map_toArray, List.map_cons, List.map_nil]); first | done | rfl | (simp only [List.length_drop, List.length_take]; rfl)) ?_; (with_reducible refine (torus_Torus_Dist.calls kj46 (wrap64 (1 + (Int.tmod (wrap64 ((Int.tmod a0 4) + 4)) 4))) t165 t166 (wrap64 (t167 + x10_1)) (wrap64 (t168 + x11_3)) t176 _ A58.out).mono ?_); rintro e w90 ⟨rfl, hb⟩; refine ⟨_, rfl, ?_⟩; have n0_ := Aside0.mk (blk_below (g := gb162) (o := .cells #[.int .i64 a1_0, .int .i64 a1_1, .int .i64 a1_2, .int .i64 a1_3] 23 (0, 0)) (by (with_reducible repeat (first | refine blk_drewN ?_ _ | refine blk_drew ?_ | refine blk_alloc ?_ _)); exact BK162.out) hb); have n1_ := Aside0.mk (blk_below (g := gb163) (o := .cells #[.int .i64 t165, .int .i64 t166] 25 (0, 0)) (by (with_reducible repeat (first | refine blk_drewN ?_ _ | refine blk_drew ?_ | refine blk_alloc ?_ _)); exact BK163.out) hb); have n2_ := Aside0.mk (blk_below (g := gb164) (o := .cells #[.int .i64 (wrap64 (1 + (Int.tmod (wrap64 ((Int.tmod a0 4) + 4)) 4)))] 27 (0, 0)) (by (with_reducible repeat (first | refine blk_drewN ?_ _ | refine blk_drew ?_ | refine blk_alloc ?_ _)); exact BK164.out) hb); have n3_ := Aside0.mk (blk_below (g := gb171) (o := .cells #[.int .i64 t167, .int .i64 t168, .int .i64 ji7, .int .i64 ji9] 29 (0, 0)) (by (with_reducible repeat (first | refine blk_drewN ?_ _ | refine blk_drew ?_ | refine blk_alloc ?_ _)); exact BK171.out) hb); have n4_ := Aside0.mk (below_step (by repeat (first | (with_reducible first | exact HB.out | apply below_alloc | apply pw_below_drewN | apply below_drew1 | refine below_set ?_ GE162.out | refine below_set ?_ GE163.out | refine below_set ?_ GE164.out | refine below_set ?_ GE171.out) | exact HB.out)) hb); clear BK162; clear BK163; clear BK164; clear BK171; clear HB; have BK162 := n0_; have BK163 := n1_; have BK164 := n2_; have BK171 := n3_; have HB := n4_; clear n0_ n1_ n2_ n3_ n4_; (try clear hb); (try clear hb2); (try clear hk); (try clear hi)))
                          go_roundg kj46
                          case measure => have := HK1.out; have := HJ35.out; have := HK3.out; have := HJ46.out; omega
                          case rel => exact ⟨(x9_3), (wrap64 (x11_3 + 1)), (by first | rfl | (simp; done) | (simp [*]; done)), (by first | rfl | (simp; done) | (simp [*]; done)), H', ⟨by have := HK1.out; have := HJ35.out; have := HK3.out; have := HJ46.out; omega⟩, ⟨by (with_reducible repeat (first | refine blk_drewN ?_ _ | refine blk_drew ?_ | refine blk_alloc ?_ _)); exact BK162.out⟩, ⟨by (with_reducible repeat (first | refine blk_drewN ?_ _ | refine blk_drew ?_ | refine blk_alloc ?_ _)); exact BK163.out⟩, ⟨by (with_reducible repeat (first | refine blk_drewN ?_ _ | refine blk_drew ?_ | refine blk_alloc ?_ _)); exact BK164.out⟩, ⟨by (with_reducible repeat (first | refine blk_drewN ?_ _ | refine blk_drew ?_ | refine blk_alloc ?_ _)); exact BK171.out⟩, ⟨by repeat (first | (with_reducible first | exact HB.out | apply below_alloc | apply pw_below_drewN | apply below_drew1 | refine below_set ?_ GE162.out | refine below_set ?_ GE163.out | refine below_set ?_ GE164.out | refine below_set ?_ GE171.out) | exact HB.out)⟩⟩
                    · replace c57 := Bool.eq_false_iff.mpr c57
                      subst c57
                      have H1 : (glebelaw04_WindowDists.l0 kj46 x9_3 (wrap64 (x10_1 + 1)) t165 t166 (wrap64 (1 + (Int.tmod (wrap64 ((Int.tmod a0 4) + 4)) 4))) t167 t168 ji7 ji9) = some r := by rw [if_neg (show ¬ (false = true) by decide)] at H; exact H
                      clear H
                      have H := H1
                      clear H1
                      have H' := Aside0.mk H
                      clear H
                      go_wp2
                      go_roundg kj46
                      case measure => have := HK1.out; have := HJ35.out; have := HK3.out; have := HJ46.out; omega
                      case rel => exact ⟨(x9_3), (wrap64 (x10_1 + 1)), (by first | rfl | (simp; done) | (simp [*]; done)), (by first | rfl | (simp; done) | (simp [*]; done)), H', ⟨by have := HK1.out; have := HJ35.out; have := HK3.out; have := HJ46.out; omega⟩, ⟨by (with_reducible repeat (first | refine blk_drewN ?_ _ | refine blk_drew ?_ | refine blk_alloc ?_ _)); exact BK162.out⟩, ⟨by (with_reducible repeat (first | refine blk_drewN ?_ _ | refine blk_drew ?_ | refine blk_alloc ?_ _)); exact BK163.out⟩, ⟨by (with_reducible repeat (first | refine blk_drewN ?_ _ | refine blk_drew ?_ | refine blk_alloc ?_ _)); exact BK164.out⟩, ⟨by (with_reducible repeat (first | refine blk_drewN ?_ _ | refine blk_drew ?_ | refine blk_alloc ?_ _)); exact BK171.out⟩, ⟨by repeat (first | (with_reducible first | exact HB.out | apply below_alloc | apply pw_below_drewN | apply below_drew1 | refine below_set ?_ GE162.out | refine below_set ?_ GE163.out | refine below_set ?_ GE164.out | refine below_set ?_ GE171.out) | exact HB.out)⟩⟩
          · replace c46 := Bool.eq_false_iff.mpr c46
            subst c46
            have H1 : ((window_Dist.f kj35 (wrap64 (1 + (Int.tmod (wrap64 ((Int.tmod a0 4) + 4)) 4))) t167 t168 ji7 ji9 t165 t166).bind fun t174 => (if t174 = x9_1 then ((glebelaw04_knows.f kj35).bind fun t175 => (some t175)) else (none))) = some r := by rw [if_neg (show ¬ (false = true) by decide)] at H; exact H
            clear H
            have H := H1
            clear H1
            replace H := Option.bind_eq_some_iff.mp H
            obtain ⟨t174, A910, H⟩ := H
            replace H : (if t174 = x9_1 then ((glebelaw04_knows.f kj35).bind fun t175 => (some t175)) else (none)) = some r := H
            have A91 := Aside0.mk A910
            clear A910
            by_cases c92 : t174 = x9_1
            · rw [if_pos c92] at H
              have c92b0 : (t174 == x9_1) = true := beq_iff_eq.mpr c92
              have c92b1 : (t174 != x9_1) = false := bne_eq_false_iff_eq.mpr c92
              clear c92
              replace H := Option.bind_eq_some_iff.mp H
              obtain ⟨t175, A930, H⟩ := H
              replace H : (some t175) = some r := H
              have A93 := Aside0.mk A930
              clear A930
              obtain rfl := Option.some.inj H
              have hnb94 := NB164_162.out
              have hnc94 := NB162_164.out
              have hnb95 := NB164_163.out
              have hnc95 := NB163_164.out
              have hnb96 := NB164_171.out
              have hnc96 := NB171_164.out
              have hcz97_0 : wc.cell? ⟨gb164, 0, none⟩ = some (.int .i64 (wrap64 (1 + (Int.tmod (wrap64 ((Int.tmod a0 4) + 4)) 4)))) := (blk_cell BK164.out 0).trans rfl
              have hfz97_0 := blk_frozen BK164.out 0
              have hnb98 := NB171_162.out
              have hnc98 := NB162_171.out
              have hnb99 := NB171_163.out
              have hnc99 := NB163_171.out
              have hcz100_0 : wc.cell? ⟨gb171, 0, none⟩ = some (.int .i64 t167) := (blk_cell BK171.out 0).trans rfl
              have hcz100_1 : wc.cell? ⟨gb171, 1, none⟩ = some (.int .i64 t168) := (blk_cell BK171.out 1).trans rfl
              have hcz100_2 : wc.cell? ⟨gb171, 2, none⟩ = some (.int .i64 ji7) := (blk_cell BK171.out 2).trans rfl
              have hcz100_3 : wc.cell? ⟨gb171, 3, none⟩ = some (.int .i64 ji9) := (blk_cell BK171.out 3).trans rfl
              have hfz100_0 := blk_frozen BK171.out 0
              have hfz100_1 := blk_frozen BK171.out 1
              have hfz100_2 := blk_frozen BK171.out 2
              have hfz100_3 := blk_frozen BK171.out 3
              have hnb101 := NB163_162.out
              have hnc101 := NB162_163.out
              have hcz102_0 : wc.cell? ⟨gb163, 0, none⟩ = some (.int .i64 t165) := (blk_cell BK163.out 0).trans rfl
              have hcz102_1 : wc.cell? ⟨gb163, 1, none⟩ = some (.int .i64 t166) := (blk_cell BK163.out 1).trans rfl
              have hfz102_0 := blk_frozen BK163.out 0
              have hfz102_1 := blk_frozen BK163.out 1
              go_wp2_with (first | ((with_reducible refine gate_callee (f := 11) rfl ?_); refine goesL_ (some 90) rfl rfl Try.func11 (by kernel_rfl) rfl #[.agg #[.int .i64 (wrap64 (1 + (Int.tmod (wrap64 ((Int.tmod a0 4) + 4)) 4)))], .agg #[.int .i64 t167, .int .i64 t168, .int .i64 ji7, .int .i64 ji9], .agg #[.int .i64 t165, .int .i64 t166]] rfl (by (try simp only [List.map_toArray, List.map_cons, List.map_nil]); first | done | (simp only [hji7, hji9]; rfl) | rfl | (simp only [List.length_drop, List.length_take]; rfl)) ?_; (with_reducible refine (window_Dist.calls kj35 (wrap64 (1 + (Int.tmod (wrap64 ((Int.tmod a0 4) + 4)) 4))) t167 t168 ji7 ji9 t165 t166 t174 _ A91.out).mono ?_); rintro e w103 ⟨rfl, hb⟩; refine ⟨_, rfl, ?_⟩; have n0_ := Aside0.mk (blk_below (g := gb162) (o := .cells #[.int .i64 a1_0, .int .i64 a1_1, .int .i64 a1_2, .int .i64 a1_3] 23 (0, 0)) (by (with_reducible repeat (first | refine blk_drewN ?_ _ | refine blk_drew ?_ | refine blk_alloc ?_ _)); exact BK162.out) hb); have n1_ := Aside0.mk (blk_below (g := gb163) (o := .cells #[.int .i64 t165, .int .i64 t166] 25 (0, 0)) (by (with_reducible repeat (first | refine blk_drewN ?_ _ | refine blk_drew ?_ | refine blk_alloc ?_ _)); exact BK163.out) hb); have n2_ := Aside0.mk (blk_below (g := gb164) (o := .cells #[.int .i64 (wrap64 (1 + (Int.tmod (wrap64 ((Int.tmod a0 4) + 4)) 4)))] 27 (0, 0)) (by (with_reducible repeat (first | refine blk_drewN ?_ _ | refine blk_drew ?_ | refine blk_alloc ?_ _)); exact BK164.out) hb); have n3_ := Aside0.mk (blk_below (g := gb171) (o := .cells #[.int .i64 t167, .int .i64 t168, .int .i64 ji7, .int .i64 ji9] 29 (0, 0)) (by (with_reducible repeat (first | refine blk_drewN ?_ _ | refine blk_drew ?_ | refine blk_alloc ?_ _)); exact BK171.out) hb); have n4_ := Aside0.mk (below_step (by repeat (first | (with_reducible first | exact HB.out | apply below_alloc | apply pw_below_drewN | apply below_drew1 | refine below_set ?_ GE162.out | refine below_set ?_ GE163.out | refine below_set ?_ GE164.out | refine below_set ?_ GE171.out) | exact HB.out)) hb); clear BK162; clear BK163; clear BK164; clear BK171; clear HB; have BK162 := n0_; have BK163 := n1_; have BK164 := n2_; have BK171 := n3_; have HB := n4_; clear n0_ n1_ n2_ n3_ n4_; (try clear hb); (try clear hb2); (try clear hk); (try clear hi)) | (go_at_call 12; (with_reducible refine (glebelaw04_knows.calls kj35  t175 _ A93.out).mono ?_); rintro e w104 ⟨rfl, hb⟩; have n0_ := Aside0.mk (blk_below (g := gb162) (o := .cells #[.int .i64 a1_0, .int .i64 a1_1, .int .i64 a1_2, .int .i64 a1_3] 23 (0, 0)) (by (with_reducible repeat (first | refine blk_drewN ?_ _ | refine blk_drew ?_ | refine blk_alloc ?_ _)); exact BK162.out) hb); have n1_ := Aside0.mk (blk_below (g := gb163) (o := .cells #[.int .i64 t165, .int .i64 t166] 25 (0, 0)) (by (with_reducible repeat (first | refine blk_drewN ?_ _ | refine blk_drew ?_ | refine blk_alloc ?_ _)); exact BK163.out) hb); have n2_ := Aside0.mk (blk_below (g := gb164) (o := .cells #[.int .i64 (wrap64 (1 + (Int.tmod (wrap64 ((Int.tmod a0 4) + 4)) 4)))] 27 (0, 0)) (by (with_reducible repeat (first | refine blk_drewN ?_ _ | refine blk_drew ?_ | refine blk_alloc ?_ _)); exact BK164.out) hb); have n3_ := Aside0.mk (blk_below (g := gb171) (o := .cells #[.int .i64 t167, .int .i64 t168, .int .i64 ji7, .int .i64 ji9] 29 (0, 0)) (by (with_reducible repeat (first | refine blk_drewN ?_ _ | refine blk_drew ?_ | refine blk_alloc ?_ _)); exact BK171.out) hb); have n4_ := Aside0.mk (below_step (by repeat (first | (with_reducible first | exact HB.out | apply below_alloc | apply pw_below_drewN | apply below_drew1 | refine below_set ?_ GE162.out | refine below_set ?_ GE163.out | refine below_set ?_ GE164.out | refine below_set ?_ GE171.out) | exact HB.out)) hb); clear BK162; clear BK163; clear BK164; clear BK171; clear HB; have BK162 := n0_; have BK163 := n1_; have BK164 := n2_; have BK171 := n3_; have HB := n4_; clear n0_ n1_ n2_ n3_ n4_; (try clear hb); (try clear hb2); (try clear hk); (try clear hi)))
              go_ret
              exact ⟨by first | rfl | (simp [errW_none, errW_some] <;> rfl) | (simp only [← hji7, ← hji9]; first | rfl | (simp [errW_none, errW_some] <;> rfl)) | (simp [*, errW_none, errW_some] <;> rfl), by repeat (first | (with_reducible first | exact HB.out | apply below_alloc | apply pw_below_drewN | apply below_drew1 | refine below_set ?_ GE162.out | refine below_set ?_ GE163.out | refine below_set ?_ GE164.out | refine below_set ?_ GE171.out) | exact HB.out)⟩
            · rw [if_neg c92] at H
              exact absurd H (by simp)

end Go.Proofs.Ytnkfbkbllkdnoaa.PW
