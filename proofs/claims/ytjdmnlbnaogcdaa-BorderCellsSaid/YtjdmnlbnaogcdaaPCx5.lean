-- Written by a program of this session (wip/tools/hp.py) over the kit's print; nothing here is trusted: Lean checks it.
import Derived.Test.YtjdmnlbnaogcdaaPCx0
import Derived.Test.YtjdmnlbnaogcdaaPCx1
import Derived.Test.YtjdmnlbnaogcdaaPCx4
namespace Go.Proofs.Ytjdmnlbnaogcdaa.PC
open Go.RowKit Go.Proofs.YtjdmnlbnaogcdaaW.PrintWords Go.Proofs.YtjdmnlbnaogcdaaW.PrintLast Go.Proofs.YtjdmnlbnaogcdaaW.PrintMore
attribute [local go_sem] max2_int min2_int max_two min_two max_three min_three max_four min_four   -- for this text's walks alone
set_option linter.unusedVariables false
set_option linter.unusedSimpArgs false

attribute [local go_sem high] eqA23 eqA25
/-! ### glebelaw06_cells: function 23 -/
mutual
def glebelaw06_cells.l0 : Nat → Int → Int → Int → Int → Int → Int → Int → Int → Int → Option (Int)
 | 0, _, _, _, _, _, _, _, _, _ => none
 | k + 1, x8, x9, x10, x11, x221000, x223000, x223001, x228000, x228001 => if x11 < x8 then (glebelaw06_cells.j1 k x8 x9 x10 x11 (decide (x11 < 20)) x221000 x223000 x223001 x228000 x228001) else (glebelaw06_cells.j1 k x8 x9 x10 x11 false x221000 x223000 x223001 x228000 x228001)
def glebelaw06_cells.j1 : Nat → Int → Int → Int → Int → Bool → Int → Int → Int → Int → Int → Option (Int)
 | 0, _, _, _, _, _, _, _, _, _, _ => none
 | k + 1, x8, x9, x10, x11, x32, x221000, x223000, x223001, x228000, x228001 => if x32 = true then (glebelaw06_cells.l1 k x8 x9 x10 x11 0 x221000 x223000 x223001 x228000 x228001) else (some x10)
def glebelaw06_cells.l1 : Nat → Int → Int → Int → Int → Int → Int → Int → Int → Int → Int → Option (Int)
 | 0, _, _, _, _, _, _, _, _, _, _ => none
 | k + 1, x8, x9, x10, x11, x12, x221000, x223000, x223001, x228000, x228001 => if x12 < x9 then (glebelaw06_cells.j3 k x8 x9 x10 x11 x12 (decide (x12 < 20)) x221000 x223000 x223001 x228000 x228001) else (glebelaw06_cells.j3 k x8 x9 x10 x11 x12 false x221000 x223000 x223001 x228000 x228001)
def glebelaw06_cells.j3 : Nat → Int → Int → Int → Int → Int → Bool → Int → Int → Int → Int → Int → Option (Int)
 | 0, _, _, _, _, _, _, _, _, _, _, _ => none
 | k + 1, x8, x9, x10, x11, x12, x41, x221000, x223000, x223001, x228000, x228001 => if x41 = true then ((torus_Torus_Wrap.f x221000 (wrap64 ((wrap64 (x228000 + x11)) + 1)) (wrap64 (x228001 + x12))).bind fun bt229 => ((torus_Torus_Wrap.f x221000 (wrap64 ((wrap64 (x228000 + x11)) - 1)) (wrap64 (x228001 + x12))).bind fun bt231 => ((torus_Torus_Wrap.f x221000 (wrap64 (x228000 + x11)) (wrap64 ((wrap64 (x228001 + x12)) + 1))).bind fun bt233 => ((torus_Torus_Wrap.f x221000 (wrap64 (x228000 + x11)) (wrap64 ((wrap64 (x228001 + x12)) - 1))).bind fun bt235 => (glebelaw06_cells.l2 k x8 x9 x10 x11 x12 (([(⟨bt229.1, bt229.2⟩ : S25), (⟨bt231.1, bt231.2⟩ : S25), (⟨bt233.1, bt233.2⟩ : S25), (⟨bt235.1, bt235.2⟩ : S25)] : List (S25))) 0 x221000 x223000 x223001 x228000 x228001))))) else (glebelaw06_cells.l0 k x8 x9 x10 (wrap64 (x11 + 1)) x221000 x223000 x223001 x228000 x228001)
def glebelaw06_cells.l2 : Nat → Int → Int → Int → Int → Int → List (S25) → Int → Int → Int → Int → Int → Int → Option (Int)
 | 0, _, _, _, _, _, _, _, _, _, _, _, _ => none
 | k + 1, x8, x9, x10, x11, x12, x14, x15, x221000, x223000, x223001, x228000, x228001 => if x15 < 4 then (if (Int.tmod x15 2) = 1 then (if 0 ≤ x15 then (if x15 < (x14.length : Int) then (if 0 ≤ (wrap64 (x15 - 1)) then (if (wrap64 (x15 - 1)) < (x14.length : Int) then (glebelaw06_cells.j5 k x8 x9 x10 x11 x12 x14 x15 (((rd_T25 x14 x15).f0) == ((rd_T25 x14 (wrap64 (x15 - 1))).f0) && (((rd_T25 x14 x15).f1) == ((rd_T25 x14 (wrap64 (x15 - 1))).f1))) x221000 x223000 x223001 x228000 x228001) else (none)) else (none)) else (none)) else (none)) else (glebelaw06_cells.j5 k x8 x9 x10 x11 x12 x14 x15 false x221000 x223000 x223001 x228000 x228001)) else (glebelaw06_cells.l1 k x8 x9 x10 x11 (wrap64 (x12 + 1)) x221000 x223000 x223001 x228000 x228001)
def glebelaw06_cells.j5 : Nat → Int → Int → Int → Int → Int → List (S25) → Int → Bool → Int → Int → Int → Int → Int → Option (Int)
 | 0, _, _, _, _, _, _, _, _, _, _, _, _, _ => none
 | k + 1, x8, x9, x10, x11, x12, x14, x15, x16, x221000, x223000, x223001, x228000, x228001 => if 0 ≤ x15 then (if x15 < (x14.length : Int) then ((path_At.f k x221000 ((rd_T25 x14 x15).f0) ((rd_T25 x14 x15).f1) x223000).bind fun bt243 => ((glebelaw06_num.f bt243.2.2).bind fun t247 => (if t247 = 0 then (if (bt243.1 == x223000 && (bt243.2.1 == x223001)) = true then (if x16 = true then (glebelaw06_cells.l2 k x8 x9 x10 x11 x12 x14 (wrap64 (x15 + 1)) x221000 x223000 x223001 x228000 x228001) else (glebelaw06_cells.l2 k x8 x9 (wrap64 (x10 + 1)) x11 x12 x14 (wrap64 (x15 + 1)) x221000 x223000 x223001 x228000 x228001)) else (glebelaw06_cells.l2 k x8 x9 x10 x11 x12 x14 (wrap64 (x15 + 1)) x221000 x223000 x223001 x228000 x228001)) else (glebelaw06_cells.l2 k x8 x9 x10 x11 x12 x14 (wrap64 (x15 + 1)) x221000 x223000 x223001 x228000 x228001)))) else (none)) else (none)
end
def glebelaw06_cells.f (k : Nat) (a0_0 : Int) (a1_0 : Int) (a1_1 : Int) (a2_0 : Int) (a2_1 : Int) : Option (Int) := (path_Corner.f a0_0 a1_0 a1_1).bind fun bt223 => (glebelaw06_cells.l0 k bt223.2.2.1 bt223.2.2.2 0 0 a0_0 a2_0 a2_1 bt223.1 bt223.2.1)
theorem glebelaw06_cells.mono_l : ∀ k, (∀ y0 y1 y2 y3 y4 y5 y6 y7 y8, LeO (glebelaw06_cells.l0 k y0 y1 y2 y3 y4 y5 y6 y7 y8) (glebelaw06_cells.l0 (k + 1) y0 y1 y2 y3 y4 y5 y6 y7 y8)) ∧ (∀ y0 y1 y2 y3 y4 y5 y6 y7 y8 y9, LeO (glebelaw06_cells.j1 k y0 y1 y2 y3 y4 y5 y6 y7 y8 y9) (glebelaw06_cells.j1 (k + 1) y0 y1 y2 y3 y4 y5 y6 y7 y8 y9)) ∧ (∀ y0 y1 y2 y3 y4 y5 y6 y7 y8 y9, LeO (glebelaw06_cells.l1 k y0 y1 y2 y3 y4 y5 y6 y7 y8 y9) (glebelaw06_cells.l1 (k + 1) y0 y1 y2 y3 y4 y5 y6 y7 y8 y9)) ∧ (∀ y0 y1 y2 y3 y4 y5 y6 y7 y8 y9 y10, LeO (glebelaw06_cells.j3 k y0 y1 y2 y3 y4 y5 y6 y7 y8 y9 y10) (glebelaw06_cells.j3 (k + 1) y0 y1 y2 y3 y4 y5 y6 y7 y8 y9 y10)) ∧ (∀ y0 y1 y2 y3 y4 y5 y6 y7 y8 y9 y10 y11, LeO (glebelaw06_cells.l2 k y0 y1 y2 y3 y4 y5 y6 y7 y8 y9 y10 y11) (glebelaw06_cells.l2 (k + 1) y0 y1 y2 y3 y4 y5 y6 y7 y8 y9 y10 y11)) ∧ (∀ y0 y1 y2 y3 y4 y5 y6 y7 y8 y9 y10 y11 y12, LeO (glebelaw06_cells.j5 k y0 y1 y2 y3 y4 y5 y6 y7 y8 y9 y10 y11 y12) (glebelaw06_cells.j5 (k + 1) y0 y1 y2 y3 y4 y5 y6 y7 y8 y9 y10 y11 y12))
 | 0 => ⟨fun _ _ _ _ _ _ _ _ _ r h => by simp [glebelaw06_cells.l0] at h, fun _ _ _ _ _ _ _ _ _ _ r h => by simp [glebelaw06_cells.j1] at h, fun _ _ _ _ _ _ _ _ _ _ r h => by simp [glebelaw06_cells.l1] at h, fun _ _ _ _ _ _ _ _ _ _ _ r h => by simp [glebelaw06_cells.j3] at h, fun _ _ _ _ _ _ _ _ _ _ _ _ r h => by simp [glebelaw06_cells.l2] at h, fun _ _ _ _ _ _ _ _ _ _ _ _ _ r h => by simp [glebelaw06_cells.j5] at h⟩
 | k + 1 => by
  obtain ⟨ih0, ih1, ih2, ih3, ih4, ih5⟩ := glebelaw06_cells.mono_l k
  refine ⟨?_, ?_, ?_, ?_, ?_, ?_⟩
  ·intro y0 y1 y2 y3 y4 y5 y6 y7 y8
   unfold glebelaw06_cells.l0
   repeat' first
   | (with_reducible exact ih0 _ _ _ _ _ _ _ _ _)
   | (with_reducible exact ih1 _ _ _ _ _ _ _ _ _ _)
   | (with_reducible exact ih2 _ _ _ _ _ _ _ _ _ _)
   | (with_reducible exact ih3 _ _ _ _ _ _ _ _ _ _ _)
   | (with_reducible exact ih4 _ _ _ _ _ _ _ _ _ _ _ _)
   | (with_reducible exact ih5 _ _ _ _ _ _ _ _ _ _ _ _ _)
   | (with_reducible exact path_At.mono _ _ _ _ _)
   | (with_reducible exact LeO.refl _)
   | (with_reducible exact LeO.none _)
   | (with_reducible refine LeO.ite ?_ ?_)
   | (with_reducible refine LeO.bind ?_ (fun _ => ?_))
   | exact ih0 _ _ _ _ _ _ _ _ _
   | exact ih1 _ _ _ _ _ _ _ _ _ _
   | exact ih2 _ _ _ _ _ _ _ _ _ _
   | exact ih3 _ _ _ _ _ _ _ _ _ _ _
   | exact ih4 _ _ _ _ _ _ _ _ _ _ _ _
   | exact ih5 _ _ _ _ _ _ _ _ _ _ _ _ _
   | exact path_At.mono _ _ _ _ _
   | exact LeO.none _
   | refine LeO.ite ?_ ?_
   | refine LeO.bind ?_ (fun _ => ?_)
  ·intro y0 y1 y2 y3 y4 y5 y6 y7 y8 y9
   unfold glebelaw06_cells.j1
   repeat' first
   | (with_reducible exact ih0 _ _ _ _ _ _ _ _ _)
   | (with_reducible exact ih1 _ _ _ _ _ _ _ _ _ _)
   | (with_reducible exact ih2 _ _ _ _ _ _ _ _ _ _)
   | (with_reducible exact ih3 _ _ _ _ _ _ _ _ _ _ _)
   | (with_reducible exact ih4 _ _ _ _ _ _ _ _ _ _ _ _)
   | (with_reducible exact ih5 _ _ _ _ _ _ _ _ _ _ _ _ _)
   | (with_reducible exact path_At.mono _ _ _ _ _)
   | (with_reducible exact LeO.refl _)
   | (with_reducible exact LeO.none _)
   | (with_reducible refine LeO.ite ?_ ?_)
   | (with_reducible refine LeO.bind ?_ (fun _ => ?_))
   | exact ih0 _ _ _ _ _ _ _ _ _
   | exact ih1 _ _ _ _ _ _ _ _ _ _
   | exact ih2 _ _ _ _ _ _ _ _ _ _
   | exact ih3 _ _ _ _ _ _ _ _ _ _ _
   | exact ih4 _ _ _ _ _ _ _ _ _ _ _ _
   | exact ih5 _ _ _ _ _ _ _ _ _ _ _ _ _
   | exact path_At.mono _ _ _ _ _
   | exact LeO.none _
   | refine LeO.ite ?_ ?_
   | refine LeO.bind ?_ (fun _ => ?_)
  ·intro y0 y1 y2 y3 y4 y5 y6 y7 y8 y9
   unfold glebelaw06_cells.l1
   repeat' first
   | (with_reducible exact ih0 _ _ _ _ _ _ _ _ _)
   | (with_reducible exact ih1 _ _ _ _ _ _ _ _ _ _)
   | (with_reducible exact ih2 _ _ _ _ _ _ _ _ _ _)
   | (with_reducible exact ih3 _ _ _ _ _ _ _ _ _ _ _)
   | (with_reducible exact ih4 _ _ _ _ _ _ _ _ _ _ _ _)
   | (with_reducible exact ih5 _ _ _ _ _ _ _ _ _ _ _ _ _)
   | (with_reducible exact path_At.mono _ _ _ _ _)
   | (with_reducible exact LeO.refl _)
   | (with_reducible exact LeO.none _)
   | (with_reducible refine LeO.ite ?_ ?_)
   | (with_reducible refine LeO.bind ?_ (fun _ => ?_))
   | exact ih0 _ _ _ _ _ _ _ _ _
   | exact ih1 _ _ _ _ _ _ _ _ _ _
   | exact ih2 _ _ _ _ _ _ _ _ _ _
   | exact ih3 _ _ _ _ _ _ _ _ _ _ _
   | exact ih4 _ _ _ _ _ _ _ _ _ _ _ _
   | exact ih5 _ _ _ _ _ _ _ _ _ _ _ _ _
   | exact path_At.mono _ _ _ _ _
   | exact LeO.none _
   | refine LeO.ite ?_ ?_
   | refine LeO.bind ?_ (fun _ => ?_)
  ·intro y0 y1 y2 y3 y4 y5 y6 y7 y8 y9 y10
   unfold glebelaw06_cells.j3
   repeat' first
   | (with_reducible exact ih0 _ _ _ _ _ _ _ _ _)
   | (with_reducible exact ih1 _ _ _ _ _ _ _ _ _ _)
   | (with_reducible exact ih2 _ _ _ _ _ _ _ _ _ _)
   | (with_reducible exact ih3 _ _ _ _ _ _ _ _ _ _ _)
   | (with_reducible exact ih4 _ _ _ _ _ _ _ _ _ _ _ _)
   | (with_reducible exact ih5 _ _ _ _ _ _ _ _ _ _ _ _ _)
   | (with_reducible exact path_At.mono _ _ _ _ _)
   | (with_reducible exact LeO.refl _)
   | (with_reducible exact LeO.none _)
   | (with_reducible refine LeO.ite ?_ ?_)
   | (with_reducible refine LeO.bind ?_ (fun _ => ?_))
   | exact ih0 _ _ _ _ _ _ _ _ _
   | exact ih1 _ _ _ _ _ _ _ _ _ _
   | exact ih2 _ _ _ _ _ _ _ _ _ _
   | exact ih3 _ _ _ _ _ _ _ _ _ _ _
   | exact ih4 _ _ _ _ _ _ _ _ _ _ _ _
   | exact ih5 _ _ _ _ _ _ _ _ _ _ _ _ _
   | exact path_At.mono _ _ _ _ _
   | exact LeO.none _
   | refine LeO.ite ?_ ?_
   | refine LeO.bind ?_ (fun _ => ?_)
  ·intro y0 y1 y2 y3 y4 y5 y6 y7 y8 y9 y10 y11
   unfold glebelaw06_cells.l2
   repeat' first
   | (with_reducible exact ih0 _ _ _ _ _ _ _ _ _)
   | (with_reducible exact ih1 _ _ _ _ _ _ _ _ _ _)
   | (with_reducible exact ih2 _ _ _ _ _ _ _ _ _ _)
   | (with_reducible exact ih3 _ _ _ _ _ _ _ _ _ _ _)
   | (with_reducible exact ih4 _ _ _ _ _ _ _ _ _ _ _ _)
   | (with_reducible exact ih5 _ _ _ _ _ _ _ _ _ _ _ _ _)
   | (with_reducible exact path_At.mono _ _ _ _ _)
   | (with_reducible exact LeO.refl _)
   | (with_reducible exact LeO.none _)
   | (with_reducible refine LeO.ite ?_ ?_)
   | (with_reducible refine LeO.bind ?_ (fun _ => ?_))
   | exact ih0 _ _ _ _ _ _ _ _ _
   | exact ih1 _ _ _ _ _ _ _ _ _ _
   | exact ih2 _ _ _ _ _ _ _ _ _ _
   | exact ih3 _ _ _ _ _ _ _ _ _ _ _
   | exact ih4 _ _ _ _ _ _ _ _ _ _ _ _
   | exact ih5 _ _ _ _ _ _ _ _ _ _ _ _ _
   | exact path_At.mono _ _ _ _ _
   | exact LeO.none _
   | refine LeO.ite ?_ ?_
   | refine LeO.bind ?_ (fun _ => ?_)
  ·intro y0 y1 y2 y3 y4 y5 y6 y7 y8 y9 y10 y11 y12
   unfold glebelaw06_cells.j5
   repeat' first
   | (with_reducible exact ih0 _ _ _ _ _ _ _ _ _)
   | (with_reducible exact ih1 _ _ _ _ _ _ _ _ _ _)
   | (with_reducible exact ih2 _ _ _ _ _ _ _ _ _ _)
   | (with_reducible exact ih3 _ _ _ _ _ _ _ _ _ _ _)
   | (with_reducible exact ih4 _ _ _ _ _ _ _ _ _ _ _ _)
   | (with_reducible exact ih5 _ _ _ _ _ _ _ _ _ _ _ _ _)
   | (with_reducible exact path_At.mono _ _ _ _ _)
   | (with_reducible exact LeO.refl _)
   | (with_reducible exact LeO.none _)
   | (with_reducible refine LeO.ite ?_ ?_)
   | (with_reducible refine LeO.bind ?_ (fun _ => ?_))
   | exact ih0 _ _ _ _ _ _ _ _ _
   | exact ih1 _ _ _ _ _ _ _ _ _ _
   | exact ih2 _ _ _ _ _ _ _ _ _ _
   | exact ih3 _ _ _ _ _ _ _ _ _ _ _
   | exact ih4 _ _ _ _ _ _ _ _ _ _ _ _
   | exact ih5 _ _ _ _ _ _ _ _ _ _ _ _ _
   | exact path_At.mono _ _ _ _ _
   | exact LeO.none _
   | refine LeO.ite ?_ ?_
   | refine LeO.bind ?_ (fun _ => ?_)
theorem glebelaw06_cells.mono : ∀ a0 a1 a2 a3 a4 k, LeO (glebelaw06_cells.f k a0 a1 a2 a3 a4) (glebelaw06_cells.f (k + 1) a0 a1 a2 a3 a4) := by
 intro a0 a1 a2 a3 a4 k
 obtain ⟨ih0, ih1, ih2, ih3, ih4, ih5⟩ := glebelaw06_cells.mono_l k
 unfold glebelaw06_cells.f
 repeat' first
   | (with_reducible exact ih0 _ _ _ _ _ _ _ _ _)
   | (with_reducible exact ih1 _ _ _ _ _ _ _ _ _ _)
   | (with_reducible exact ih2 _ _ _ _ _ _ _ _ _ _)
   | (with_reducible exact ih3 _ _ _ _ _ _ _ _ _ _ _)
   | (with_reducible exact ih4 _ _ _ _ _ _ _ _ _ _ _ _)
   | (with_reducible exact ih5 _ _ _ _ _ _ _ _ _ _ _ _ _)
   | (with_reducible exact path_At.mono _ _ _ _ _)
   | (with_reducible exact LeO.refl _)
   | (with_reducible exact LeO.none _)
   | (with_reducible refine LeO.ite ?_ ?_)
   | (with_reducible refine LeO.bind ?_ (fun _ => ?_))
   | exact ih0 _ _ _ _ _ _ _ _ _
   | exact ih1 _ _ _ _ _ _ _ _ _ _
   | exact ih2 _ _ _ _ _ _ _ _ _ _
   | exact ih3 _ _ _ _ _ _ _ _ _ _ _
   | exact ih4 _ _ _ _ _ _ _ _ _ _ _ _
   | exact ih5 _ _ _ _ _ _ _ _ _ _ _ _ _
   | exact path_At.mono _ _ _ _ _
   | exact LeO.none _
   | refine LeO.ite ?_ ?_
   | refine LeO.bind ?_ (fun _ => ?_)
def glebelaw06_cells.T10 : Bool × List (List Nat × List Nat) := (true, [([], []), ([], []), ([1], [1]), ([2], [2]), ([], []), ([4], [4]), ([0, 3, 5], [0, 3, 5]), ([], []), ([], []), ([8], [8]), ([9], [9]), ([], []), ([11], [11]), ([7, 10, 12, 6], [7, 10, 12]), ([], []), ([], []), ([15], [15]), ([], []), ([17], [17]), ([18], [18]), ([14, 16, 19, 13], [14, 16, 19]), ([], []), ([], []), ([22], [22]), ([], []), ([24], [24]), ([25], [25]), ([21, 23, 26, 20], [21, 23, 26]), ([6, 13, 20, 27], [6, 13, 20, 27]), ([28, 27, 0, 1, 2, 3, 4, 5, 6, 7, 8, 9, 10, 11, 12, 13, 14, 15, 16, 17, 18, 19, 20, 21, 22, 23, 24, 25, 26, 27, 28], [28])])
def glebelaw06_cells.B10 : List Nat := [0, 0, 2, 6, 0, 16, 63, 0, 0, 256, 768, 0, 2048, 8191, 0, 0, 32768, 0, 131072, 393216, 1048575, 0, 0, 4194304, 0, 16777216, 50331648, 134217727, 268435455, 536870911]
theorem glebelaw06_cells.tab10 : rtab .any (opsOf Try.f23 10) = glebelaw06_cells.T10 := by kernel_rfl
theorem glebelaw06_cells.bits10 : waitsOk glebelaw06_cells.T10.2 glebelaw06_cells.B10 = true := by kernel_rfl
def glebelaw06_cells.T14 : Bool × List (List Nat × List Nat) := (true, [([], []), ([0], [0]), ([1], [1]), ([2], [2]), ([3], [3]), ([3], [3]), ([4, 5, 3], [3, 4, 5]), ([6, 3], [3, 6]), ([3], [3]), ([3], [3]), ([9, 3], [3, 9]), ([8, 10, 3], [3, 8, 10]), ([11, 3], [3, 11]), ([7, 12, 3], [3, 7, 12]), ([3, 13], [3, 13]), ([14, 3, 0, 1, 2, 3, 4, 5, 6, 7, 8, 9, 10, 11, 12, 13, 14], [14])])
def glebelaw06_cells.B14 : List Nat := [0, 1, 3, 7, 15, 15, 63, 127, 15, 15, 527, 1807, 3855, 8191, 16383, 32767]
theorem glebelaw06_cells.tab14 : rtab .any (opsOf Try.f23 14) = glebelaw06_cells.T14 := by kernel_rfl
theorem glebelaw06_cells.bits14 : waitsOk glebelaw06_cells.T14.2 glebelaw06_cells.B14 = true := by kernel_rfl
def glebelaw06_cells.T15 : Bool × List (List Nat × List Nat) := (true, [([], []), ([], []), ([], []), ([1, 2], [1, 2]), ([3], [3]), ([], []), ([5], [5]), ([0, 4, 6], [0, 4, 6]), ([7], [7]), ([8], [8]), ([8], [8]), ([], []), ([11, 9, 7, 0, 1, 2, 3, 4, 5, 6, 7, 8, 9, 11], [9, 11]), ([10, 12, 0, 1, 2, 3, 4, 5, 6, 7, 8, 9, 10, 11, 12], [10])])
def glebelaw06_cells.B15 : List Nat := [0, 0, 0, 6, 14, 0, 32, 127, 255, 511, 511, 0, 3071, 8191]
theorem glebelaw06_cells.tab15 : rtab .any (opsOf Try.f23 15) = glebelaw06_cells.T15 := by kernel_rfl
theorem glebelaw06_cells.bits15 : waitsOk glebelaw06_cells.T15.2 glebelaw06_cells.B15 = true := by kernel_rfl
set_option maxHeartbeats 8000000 in
set_option maxRecDepth 100000 in
theorem glebelaw06_cells.calls (k : Nat) (a0_0 : Int) (a1_0 : Int) (a1_1 : Int) (a2_0 : Int) (a2_1 : Int) (r : Int) (w : World) (h : glebelaw06_cells.f k a0_0 a1_0 a1_1 a2_0 a2_1 = some r) :
  Calls Try.prog 23 #[.agg #[.int .i64 a0_0], .agg #[.int .i64 a1_0, .int .i64 a1_1], .agg #[.int .i64 a2_0, .int .i64 a2_1]] w fun e w' => e = .returned (.int .i64 r) ∧ Below w.heap.size w w' := by
 have hu27 := Try.underlying27
 have hu23 := Try.underlying23
 have hu25 := Try.underlying25
 have HB := Aside0.mk (Below.refl w.heap.size w)
 have H : ((path_Corner.f a0_0 a1_0 a1_1).bind fun bt223 => (glebelaw06_cells.l0 k bt223.2.2.1 bt223.2.2.2 0 0 a0_0 a2_0 a2_1 bt223.1 bt223.2.1)) = some r := h
 clear h
 replace H := Option.bind_eq_some_iff.mp H
 obtain ⟨⟨t223, t224, t225, t226⟩, A40, H⟩ := H
 try dsimp only at H
 have A4 := Aside0.mk A40
 clear A40
 have H' := Aside0.mk H
 clear H
 go_enter Try.func23, Try.ntmps23
 go_wp2_with (first | ((with_reducible refine gate_dst (N := 3) rfl ?_); refine box_event ?hg (N := 3) ?hd (cs := #[.int .i64 a0_0]) (t := 27) ?hr ?_; (case hd => rfl); (case hg => rfl); (case hr => first | (go_simp; done) | (go_simp; rfl)); intro gb220 hg w5 hbox hb; have n0_ := Aside0.mk (below_step (bh HB.out) hb); have n1_ := Aside0.mk (hbox); have n2_ := Aside0.mk ((by rw [hg]; exact (below_size (bh HB.out)) : w.heap.size ≤ gb220)); have n3_ := Aside0.mk ((by rw [hg]; exact (below_size (bh HB.out)) : w.heap.size ≤ gb220)); clear HB; have HB := n0_; have BK220 := n1_; have GW220 := n2_; have GE220 := n3_; clear n0_ n1_ n2_ n3_; clear hb hbox hg) | ((with_reducible refine gate_dst (N := 4) rfl ?_); refine box_event ?hg (N := 4) ?hd (cs := #[.int .i64 a1_0, .int .i64 a1_1]) (t := 23) ?hr ?_; (case hd => rfl); (case hg => rfl); (case hr => first | (go_simp; done) | (go_simp; rfl)); intro gb221 hg w6 hbox hb; have n0_ := Aside0.mk (blk_below (bk BK220.out) hb); have n1_ := Aside0.mk (below_step (bg HB.out GE220.out) hb); have n2_ := Aside0.mk (hbox); have n3_ := Aside0.mk ((by rw [hg]; exact (below_size (bg HB.out GE220.out)) : w.heap.size ≤ gb221)); have n4_ := Aside0.mk ((by rw [hg]; exact (below_size (bg HB.out GE220.out)) : w.heap.size ≤ gb221)); have n5_ := Aside0.mk ((by rw [hg]; exact Nat.ne_of_lt (blk_lt (g := gb220) (o := .cells #[.int .i64 a0_0] 27 (0, 0)) (bk BK220.out)) : gb220 ≠ gb221)); have n6_ := Aside0.mk ((by rw [hg]; exact Nat.ne_of_gt (blk_lt (g := gb220) (o := .cells #[.int .i64 a0_0] 27 (0, 0)) (bk BK220.out)) : gb221 ≠ gb220)); clear BK220; clear HB; have BK220 := n0_; have HB := n1_; have BK221 := n2_; have GW221 := n3_; have GE221 := n4_; have NB220_221 := n5_; have NB221_220 := n6_; clear n0_ n1_ n2_ n3_ n4_ n5_ n6_; clear hb hbox hg) | ((with_reducible refine gate_dst (N := 5) rfl ?_); refine box_event ?hg (N := 5) ?hd (cs := #[.int .i64 a2_0, .int .i64 a2_1]) (t := 23) ?hr ?_; (case hd => rfl); (case hg => rfl); (case hr => first | (go_simp; done) | (go_simp; rfl)); intro gb222 hg w7 hbox hb; have n0_ := Aside0.mk (blk_below (bk BK220.out) hb); have n1_ := Aside0.mk (blk_below (bk BK221.out) hb); have n2_ := Aside0.mk (below_step (q0 HB.out GE220.out GE221.out) hb); have n3_ := Aside0.mk (hbox); have n4_ := Aside0.mk ((by rw [hg]; exact (below_size (q0 HB.out GE220.out GE221.out)) : w.heap.size ≤ gb222)); have n5_ := Aside0.mk ((by rw [hg]; exact (below_size (q0 HB.out GE220.out GE221.out)) : w.heap.size ≤ gb222)); have n6_ := Aside0.mk ((by rw [hg]; exact Nat.ne_of_lt (blk_lt (g := gb220) (o := .cells #[.int .i64 a0_0] 27 (0, 0)) (bk BK220.out)) : gb220 ≠ gb222)); have n7_ := Aside0.mk ((by rw [hg]; exact Nat.ne_of_gt (blk_lt (g := gb220) (o := .cells #[.int .i64 a0_0] 27 (0, 0)) (bk BK220.out)) : gb222 ≠ gb220)); have n8_ := Aside0.mk ((by rw [hg]; exact Nat.ne_of_lt (blk_lt (g := gb221) (o := .cells #[.int .i64 a1_0, .int .i64 a1_1] 23 (0, 0)) (bk BK221.out)) : gb221 ≠ gb222)); have n9_ := Aside0.mk ((by rw [hg]; exact Nat.ne_of_gt (blk_lt (g := gb221) (o := .cells #[.int .i64 a1_0, .int .i64 a1_1] 23 (0, 0)) (bk BK221.out)) : gb222 ≠ gb221)); clear BK220; clear BK221; clear HB; have BK220 := n0_; have BK221 := n1_; have HB := n2_; have BK222 := n3_; have GW222 := n4_; have GE222 := n5_; have NB220_222 := n6_; have NB222_220 := n7_; have NB221_222 := n8_; have NB222_221 := n9_; clear n0_ n1_ n2_ n3_ n4_ n5_ n6_ n7_ n8_ n9_; clear hb hbox hg; have hnb8 := NB220_221.out; have hnc8 := NB221_220.out; have hnb9 := NB220_222.out; have hnc9 := NB222_220.out; have hcz10_0 : w7.cell? ⟨gb220, 0, none⟩ = some (.int .i64 a0_0) := bc BK220 0; have hfz10_0 := blk_frozen BK220.out 0; have hnb11 := NB221_222.out; have hnc11 := NB222_221.out; have hcz12_0 : w7.cell? ⟨gb221, 0, none⟩ = some (.int .i64 a1_0) := bc BK221 0; have hcz12_1 : w7.cell? ⟨gb221, 1, none⟩ = some (.int .i64 a1_1) := bc BK221 1; have hfz12_0 := blk_frozen BK221.out 0; have hfz12_1 := blk_frozen BK221.out 1) | ((with_reducible refine gate_callee (f := 60) rfl ?_); refine goesL_ (some 22) rfl rfl Try.func60 (by kernel_rfl) rfl #[.agg #[.int .i64 a0_0], .agg #[.int .i64 a1_0, .int .i64 a1_1]] rfl (by (try simp only [List.map_toArray, List.map_cons, List.map_nil]); first | done | rfl | (simp only [List.length_drop, List.length_take]; rfl)) ?_; (with_reducible refine (path_Corner.calls a0_0 a1_0 a1_1 t223 t224 t225 t226 _ A4.out).mono ?_); rintro e w13 ⟨rfl, hb⟩; refine ⟨_, rfl, ?_⟩; have n0_ := Aside0.mk (blk_below (bk BK220.out) hb); have n1_ := Aside0.mk (blk_below (bk BK221.out) hb); have n2_ := Aside0.mk (blk_below (bk BK222.out) hb); have n3_ := Aside0.mk (below_step (q1 HB.out GE220.out GE221.out GE222.out) hb); clear BK220; clear BK221; clear BK222; clear HB; have BK220 := n0_; have BK221 := n1_; have BK222 := n2_; have HB := n3_; clear n0_ n1_ n2_ n3_; (try clear hb); (try clear hb2); (try clear hk); (try clear hi)) | ((with_reducible refine gate_dst (N := 7) rfl ?_); refine box_event ?hg (N := 7) ?hd (cs := #[.int .i64 0, .int .i64 0]) (t := 25) ?hr ?_; (case hd => rfl); (case hg => rfl); (case hr => first | (go_simp; done) | (go_simp; rfl)); intro gb227 hg w14 hbox hb; have n0_ := Aside0.mk (blk_below (bk BK220.out) hb); have n1_ := Aside0.mk (blk_below (bk BK221.out) hb); have n2_ := Aside0.mk (blk_below (bk BK222.out) hb); have n3_ := Aside0.mk (below_step (q1 HB.out GE220.out GE221.out GE222.out) hb); have n4_ := Aside0.mk (hbox); have n5_ := Aside0.mk ((by rw [hg]; exact (below_size (q1 HB.out GE220.out GE221.out GE222.out)) : w.heap.size ≤ gb227)); have n6_ := Aside0.mk ((by rw [hg]; exact (below_size (q1 HB.out GE220.out GE221.out GE222.out)) : w.heap.size ≤ gb227)); have n7_ := Aside0.mk ((by rw [hg]; exact Nat.ne_of_lt (blk_lt (g := gb220) (o := .cells #[.int .i64 a0_0] 27 (0, 0)) (bk BK220.out)) : gb220 ≠ gb227)); have n8_ := Aside0.mk ((by rw [hg]; exact Nat.ne_of_gt (blk_lt (g := gb220) (o := .cells #[.int .i64 a0_0] 27 (0, 0)) (bk BK220.out)) : gb227 ≠ gb220)); have n9_ := Aside0.mk ((by rw [hg]; exact Nat.ne_of_lt (blk_lt (g := gb221) (o := .cells #[.int .i64 a1_0, .int .i64 a1_1] 23 (0, 0)) (bk BK221.out)) : gb221 ≠ gb227)); have n10_ := Aside0.mk ((by rw [hg]; exact Nat.ne_of_gt (blk_lt (g := gb221) (o := .cells #[.int .i64 a1_0, .int .i64 a1_1] 23 (0, 0)) (bk BK221.out)) : gb227 ≠ gb221)); have n11_ := Aside0.mk ((by rw [hg]; exact Nat.ne_of_lt (blk_lt (g := gb222) (o := .cells #[.int .i64 a2_0, .int .i64 a2_1] 23 (0, 0)) (bk BK222.out)) : gb222 ≠ gb227)); have n12_ := Aside0.mk ((by rw [hg]; exact Nat.ne_of_gt (blk_lt (g := gb222) (o := .cells #[.int .i64 a2_0, .int .i64 a2_1] 23 (0, 0)) (bk BK222.out)) : gb227 ≠ gb222)); clear BK220; clear BK221; clear BK222; clear HB; have BK220 := n0_; have BK221 := n1_; have BK222 := n2_; have HB := n3_; have BK227 := n4_; have GW227 := n5_; have GE227 := n6_; have NB220_227 := n7_; have NB227_220 := n8_; have NB221_227 := n9_; have NB227_221 := n10_; have NB222_227 := n11_; have NB227_222 := n12_; clear n0_ n1_ n2_ n3_ n4_ n5_ n6_ n7_ n8_ n9_ n10_ n11_ n12_; clear hb hbox hg; have hnb15 := NB227_220.out; have hnc15 := NB220_227.out; have hnb16 := NB227_221.out; have hnc16 := NB221_227.out; have hnb17 := NB227_222.out; have hnc17 := NB222_227.out; have hcz18_0 : w14.cell? ⟨gb227, 0, none⟩ = some (.int .i64 0) := bc BK227 0; have hcz18_1 : w14.cell? ⟨gb227, 1, none⟩ = some (.int .i64 0) := bc BK227 1; have hfz18_0 := blk_frozen BK227.out 0; have hfz18_1 := blk_frozen BK227.out 1))
 go_loopg [10, 11] k (fun kq v10 v11 w' => ∃ (x10_1 : Int) (x11_1 : Int), v10 = .int .i64 x10_1 ∧ v11 = .int .i64 x11_1 ∧ Aside0 (glebelaw06_cells.l0 kq t225 t226 x10_1 x11_1 a0_0 a2_0 a2_1 t223 t224 = some r) ∧ Aside0 (kq ≤ k) ∧ Aside0 (w'.heap[gb220]? = some (.cells #[.int .i64 a0_0] 27 (0, 0))) ∧ Aside0 (w'.heap[gb221]? = some (.cells #[.int .i64 a1_0, .int .i64 a1_1] 23 (0, 0))) ∧ Aside0 (w'.heap[gb222]? = some (.cells #[.int .i64 a2_0, .int .i64 a2_1] 23 (0, 0))) ∧ Aside0 (w'.heap[gb227]? = some (.cells #[.int .i64 t223, .int .i64 t224] 25 (0, 0))) ∧ Aside0 (Below w.heap.size w w'))
 case atStart => exact ⟨(0), (0), (by first | rfl | (simp; done) | (simp [*]; done)), (by first | rfl | (simp; done) | (simp [*]; done)), H', ⟨Nat.le_refl _⟩, ⟨(bp1 BK220.out NB220_227.out)⟩, ⟨(bp1 BK221.out NB221_227.out)⟩, ⟨(bp1 BK222.out NB222_227.out)⟩, ⟨(bp0 BK227.out)⟩, ⟨by exact q2 HB.out GE220.out GE221.out GE222.out GE227.out⟩⟩
 case round =>
  clear H'
  try clear c1
  try clear c2
  try clear p2
  try clear c6
  try clear c8
  try clear c9
  try clear c11
  try clear c15
  try clear c16
  try clear c17
  try clear hcz10_0
  try clear hcz12_0
  try clear hcz12_1
  try clear hcz18_0
  try clear hcz18_1
  try clear hfz10_0
  try clear hfz12_0
  try clear hfz12_1
  try clear hfz18_0
  try clear hfz18_1
  obtain ⟨x10_1, x11_1, rfl, rfl, HA, HK1, BK220, BK221, BK222, BK227, HB⟩ := hrel
  cases gk with
  | zero => exact absurd HA.out (by simp [glebelaw06_cells.l0])
  | succ k1 =>
   have H := HA.out
   clear HA
   simp only [glebelaw06_cells.l0] at H
   have HC19 := Aside0.mk H
   clear H
   go_upto_region 4 with (fail)
   go_cut [32] (fun v32 wc => ∃ (kq : Nat) (x32_18 : Bool), v32 = .bool x32_18 ∧ Aside0 (glebelaw06_cells.j1 kq t225 t226 x10_1 x11_1 x32_18 a0_0 a2_0 a2_1 t223 t224 = some r) ∧ Aside0 (kq ≤ k1) ∧ Aside0 (wc.heap[gb220]? = some (.cells #[.int .i64 a0_0] 27 (0, 0))) ∧ Aside0 (wc.heap[gb221]? = some (.cells #[.int .i64 a1_0, .int .i64 a1_1] 23 (0, 0))) ∧ Aside0 (wc.heap[gb222]? = some (.cells #[.int .i64 a2_0, .int .i64 a2_1] 23 (0, 0))) ∧ Aside0 (wc.heap[gb227]? = some (.cells #[.int .i64 t223, .int .i64 t224] 25 (0, 0))) ∧ Aside0 (Below w.heap.size w wc))
   case first =>
    have H := HC19.out
    clear HC19
    by_cases c20 : x11_1 < t225
    ·rw [if_pos c20] at H
     have c20b0 : decide (x11_1 < t225) = true := decide_eq_true c20
     clear c20
     (first | rw [c20b0] | (simp only [i64_w, i32_w]; rw [c20b0]) | skip)
     have H' := Aside0.mk H
     clear H
     go_wp2
     go_meet
     case rel => exact ⟨_, (decide (x11_1 < 20)), (by first | rfl | (simp; done) | (simp [*]; done)), H', ⟨by have := HK1.out; first | omega | exact Nat.le_refl _⟩, ⟨by (with_reducible repeat (first | refine blk_drewN ?_ _ | refine blk_drew ?_ | refine blk_alloc ?_ _)); exact BK220.out⟩, ⟨by (with_reducible repeat (first | refine blk_drewN ?_ _ | refine blk_drew ?_ | refine blk_alloc ?_ _)); exact BK221.out⟩, ⟨by (with_reducible repeat (first | refine blk_drewN ?_ _ | refine blk_drew ?_ | refine blk_alloc ?_ _)); exact BK222.out⟩, ⟨by (with_reducible repeat (first | refine blk_drewN ?_ _ | refine blk_drew ?_ | refine blk_alloc ?_ _)); exact BK227.out⟩, ⟨by exact q2 HB.out GE220.out GE221.out GE222.out GE227.out⟩⟩
    ·rw [if_neg c20] at H
     have c20b0 : decide (x11_1 < t225) = false := decide_eq_false c20
     clear c20
     (first | rw [c20b0] | (simp only [i64_w, i32_w]; rw [c20b0]) | skip)
     have H' := Aside0.mk H
     clear H
     go_wp2
     go_meet
     case rel => exact ⟨_, (false), (by first | rfl | (simp; done) | (simp [*]; done)), H', ⟨by have := HK1.out; first | omega | exact Nat.le_refl _⟩, ⟨by (with_reducible repeat (first | refine blk_drewN ?_ _ | refine blk_drew ?_ | refine blk_alloc ?_ _)); exact BK220.out⟩, ⟨by (with_reducible repeat (first | refine blk_drewN ?_ _ | refine blk_drew ?_ | refine blk_alloc ?_ _)); exact BK221.out⟩, ⟨by (with_reducible repeat (first | refine blk_drewN ?_ _ | refine blk_drew ?_ | refine blk_alloc ?_ _)); exact BK222.out⟩, ⟨by (with_reducible repeat (first | refine blk_drewN ?_ _ | refine blk_drew ?_ | refine blk_alloc ?_ _)); exact BK227.out⟩, ⟨by exact q2 HB.out GE220.out GE221.out GE222.out GE227.out⟩⟩
   case rest =>
    clear HC19
    try clear c1
    try clear c2
    try clear p2
    try clear c6
    try clear c8
    try clear c9
    try clear c11
    try clear c15
    try clear c16
    try clear c17
    try clear c20
    try clear c20b0
    try clear hcz10_0
    try clear hcz12_0
    try clear hcz12_1
    try clear hcz18_0
    try clear hcz18_1
    try clear hfz10_0
    try clear hfz12_0
    try clear hfz12_1
    try clear hfz18_0
    try clear hfz18_1
    try clear p2
    obtain ⟨kq, x32_18, rfl, HA, HJ18, BK220, BK221, BK222, BK227, HB⟩ := hcut
    cases kq with
    | zero => exact absurd HA.out (by simp [glebelaw06_cells.j1])
    | succ kj18 =>
     have H := HA.out
     clear HA
     simp only [glebelaw06_cells.j1] at H
     by_cases c21 : x32_18 = true
     ·subst c21
      have H1 : (glebelaw06_cells.l1 kj18 t225 t226 x10_1 x11_1 0 a0_0 a2_0 a2_1 t223 t224) = some r := by rw [if_pos rfl] at H; exact H
      clear H
      have H := H1
      clear H1
      have H' := Aside0.mk H
      clear H
      go_wp2
      go_loopg [10, 12] kj18 (fun kq v10 v12 w' => ∃ (x10_3 : Int) (x12_3 : Int), v10 = .int .i64 x10_3 ∧ v12 = .int .i64 x12_3 ∧ Aside0 (glebelaw06_cells.l1 kq t225 t226 x10_3 x11_1 x12_3 a0_0 a2_0 a2_1 t223 t224 = some r) ∧ Aside0 (kq ≤ kj18) ∧ Aside0 (w'.heap[gb220]? = some (.cells #[.int .i64 a0_0] 27 (0, 0))) ∧ Aside0 (w'.heap[gb221]? = some (.cells #[.int .i64 a1_0, .int .i64 a1_1] 23 (0, 0))) ∧ Aside0 (w'.heap[gb222]? = some (.cells #[.int .i64 a2_0, .int .i64 a2_1] 23 (0, 0))) ∧ Aside0 (w'.heap[gb227]? = some (.cells #[.int .i64 t223, .int .i64 t224] 25 (0, 0))) ∧ Aside0 (Below w.heap.size w w'))
      case atStart => exact ⟨(x10_1), (0), (by first | rfl | (simp; done) | (simp [*]; done)), (by first | rfl | (simp; done) | (simp [*]; done)), H', ⟨Nat.le_refl _⟩, ⟨by (with_reducible repeat (first | refine blk_drewN ?_ _ | refine blk_drew ?_ | refine blk_alloc ?_ _)); exact BK220.out⟩, ⟨by (with_reducible repeat (first | refine blk_drewN ?_ _ | refine blk_drew ?_ | refine blk_alloc ?_ _)); exact BK221.out⟩, ⟨by (with_reducible repeat (first | refine blk_drewN ?_ _ | refine blk_drew ?_ | refine blk_alloc ?_ _)); exact BK222.out⟩, ⟨by (with_reducible repeat (first | refine blk_drewN ?_ _ | refine blk_drew ?_ | refine blk_alloc ?_ _)); exact BK227.out⟩, ⟨by exact q2 HB.out GE220.out GE221.out GE222.out GE227.out⟩⟩
      case round =>
       clear H'
       try clear c1
       try clear c2
       try clear p2
       try clear c6
       try clear c8
       try clear c9
       try clear c11
       try clear c15
       try clear c16
       try clear c17
       try clear c20
       try clear c20b0
       try clear c21
       try clear hcz10_0
       try clear hcz12_0
       try clear hcz12_1
       try clear hcz18_0
       try clear hcz18_1
       try clear hfz10_0
       try clear hfz12_0
       try clear hfz12_1
       try clear hfz18_0
       try clear hfz18_1
       try clear p2
       obtain ⟨x10_3, x12_3, rfl, rfl, HA, HK3, BK220, BK221, BK222, BK227, HB⟩ := hrel
       cases gk with
       | zero => exact absurd HA.out (by simp [glebelaw06_cells.l1])
       | succ k3 =>
        have H := HA.out
        clear HA
        simp only [glebelaw06_cells.l1] at H
        have HC22 := Aside0.mk H
        clear H
        go_upto_region 7 with (fail)
        go_cut [41] (fun v41 wc => ∃ (kq : Nat) (x41_21 : Bool), v41 = .bool x41_21 ∧ Aside0 (glebelaw06_cells.j3 kq t225 t226 x10_3 x11_1 x12_3 x41_21 a0_0 a2_0 a2_1 t223 t224 = some r) ∧ Aside0 (kq ≤ k3) ∧ Aside0 (wc.heap[gb220]? = some (.cells #[.int .i64 a0_0] 27 (0, 0))) ∧ Aside0 (wc.heap[gb221]? = some (.cells #[.int .i64 a1_0, .int .i64 a1_1] 23 (0, 0))) ∧ Aside0 (wc.heap[gb222]? = some (.cells #[.int .i64 a2_0, .int .i64 a2_1] 23 (0, 0))) ∧ Aside0 (wc.heap[gb227]? = some (.cells #[.int .i64 t223, .int .i64 t224] 25 (0, 0))) ∧ Aside0 (Below w.heap.size w wc))
        case first =>
         have H := HC22.out
         clear HC22
         by_cases c23 : x12_3 < t226
         ·rw [if_pos c23] at H
          have c23b0 : decide (x12_3 < t226) = true := decide_eq_true c23
          clear c23
          (first | rw [c23b0] | (simp only [i64_w, i32_w]; rw [c23b0]) | skip)
          have H' := Aside0.mk H
          clear H
          go_wp2
          go_meet
          case rel => exact ⟨_, (decide (x12_3 < 20)), (by first | rfl | (simp; done) | (simp [*]; done)), H', ⟨by have := HK1.out; have := HJ18.out; have := HK3.out; first | omega | exact Nat.le_refl _⟩, ⟨by (with_reducible repeat (first | refine blk_drewN ?_ _ | refine blk_drew ?_ | refine blk_alloc ?_ _)); exact BK220.out⟩, ⟨by (with_reducible repeat (first | refine blk_drewN ?_ _ | refine blk_drew ?_ | refine blk_alloc ?_ _)); exact BK221.out⟩, ⟨by (with_reducible repeat (first | refine blk_drewN ?_ _ | refine blk_drew ?_ | refine blk_alloc ?_ _)); exact BK222.out⟩, ⟨by (with_reducible repeat (first | refine blk_drewN ?_ _ | refine blk_drew ?_ | refine blk_alloc ?_ _)); exact BK227.out⟩, ⟨by exact q2 HB.out GE220.out GE221.out GE222.out GE227.out⟩⟩
         ·rw [if_neg c23] at H
          have c23b0 : decide (x12_3 < t226) = false := decide_eq_false c23
          clear c23
          (first | rw [c23b0] | (simp only [i64_w, i32_w]; rw [c23b0]) | skip)
          have H' := Aside0.mk H
          clear H
          go_wp2
          go_meet
          case rel => exact ⟨_, (false), (by first | rfl | (simp; done) | (simp [*]; done)), H', ⟨by have := HK1.out; have := HJ18.out; have := HK3.out; first | omega | exact Nat.le_refl _⟩, ⟨by (with_reducible repeat (first | refine blk_drewN ?_ _ | refine blk_drew ?_ | refine blk_alloc ?_ _)); exact BK220.out⟩, ⟨by (with_reducible repeat (first | refine blk_drewN ?_ _ | refine blk_drew ?_ | refine blk_alloc ?_ _)); exact BK221.out⟩, ⟨by (with_reducible repeat (first | refine blk_drewN ?_ _ | refine blk_drew ?_ | refine blk_alloc ?_ _)); exact BK222.out⟩, ⟨by (with_reducible repeat (first | refine blk_drewN ?_ _ | refine blk_drew ?_ | refine blk_alloc ?_ _)); exact BK227.out⟩, ⟨by exact q2 HB.out GE220.out GE221.out GE222.out GE227.out⟩⟩
        case rest =>
         clear HC22
         try clear c1
         try clear c2
         try clear p2
         try clear c6
         try clear c8
         try clear c9
         try clear c11
         try clear c15
         try clear c16
         try clear c17
         try clear c20
         try clear c20b0
         try clear c21
         try clear c23
         try clear c23b0
         try clear hcz10_0
         try clear hcz12_0
         try clear hcz12_1
         try clear hcz18_0
         try clear hcz18_1
         try clear hfz10_0
         try clear hfz12_0
         try clear hfz12_1
         try clear hfz18_0
         try clear hfz18_1
         try clear p2
         obtain ⟨kq, x41_21, rfl, HA, HJ21, BK220, BK221, BK222, BK227, HB⟩ := hcut
         cases kq with
         | zero => exact absurd HA.out (by simp [glebelaw06_cells.j3])
         | succ kj21 =>
          have H := HA.out
          clear HA
          simp only [glebelaw06_cells.j3] at H
          by_cases c24 : x41_21 = true
          ·subst c24
           have H1 : ((torus_Torus_Wrap.f a0_0 (wrap64 ((wrap64 (t223 + x11_1)) + 1)) (wrap64 (t224 + x12_3))).bind fun bt229 => ((torus_Torus_Wrap.f a0_0 (wrap64 ((wrap64 (t223 + x11_1)) - 1)) (wrap64 (t224 + x12_3))).bind fun bt231 => ((torus_Torus_Wrap.f a0_0 (wrap64 (t223 + x11_1)) (wrap64 ((wrap64 (t224 + x12_3)) + 1))).bind fun bt233 => ((torus_Torus_Wrap.f a0_0 (wrap64 (t223 + x11_1)) (wrap64 ((wrap64 (t224 + x12_3)) - 1))).bind fun bt235 => (glebelaw06_cells.l2 kj21 t225 t226 x10_3 x11_1 x12_3 (([(⟨bt229.1, bt229.2⟩ : S25), (⟨bt231.1, bt231.2⟩ : S25), (⟨bt233.1, bt233.2⟩ : S25), (⟨bt235.1, bt235.2⟩ : S25)] : List (S25))) 0 a0_0 a2_0 a2_1 t223 t224))))) = some r := by rw [if_pos rfl] at H; exact H
           clear H
           have H := H1
           clear H1
           replace H := Option.bind_eq_some_iff.mp H
           obtain ⟨⟨t229, t230⟩, A250, H⟩ := H
           try dsimp only at H
           have A25 := Aside0.mk A250
           clear A250
           replace H := Option.bind_eq_some_iff.mp H
           obtain ⟨⟨t231, t232⟩, A260, H⟩ := H
           try dsimp only at H
           have A26 := Aside0.mk A260
           clear A260
           replace H := Option.bind_eq_some_iff.mp H
           obtain ⟨⟨t233, t234⟩, A270, H⟩ := H
           try dsimp only at H
           have A27 := Aside0.mk A270
           clear A270
           replace H := Option.bind_eq_some_iff.mp H
           obtain ⟨⟨t235, t236⟩, A280, H⟩ := H
           try dsimp only at H
           have A28 := Aside0.mk A280
           clear A280
           obtain ⟨y237, hy237⟩ : ∃ y_ : List (S25), y_ = (([(⟨t229, t230⟩ : S25), (⟨t231, t232⟩ : S25), (⟨t233, t234⟩ : S25), (⟨t235, t236⟩ : S25)] : List (S25))) := ⟨_, rfl⟩
           replace H : (glebelaw06_cells.l2 kj21 t225 t226 x10_3 x11_1 x12_3 y237 0 a0_0 a2_0 a2_1 t223 t224) = some r := by first | (rw [hy237]; with_reducible exact H) | (have H2_ := (Option.bind_some _ _).symm.trans H; rw [hy237]; with_reducible exact H2_) | (have H2_ := (Option.bind_some _ _).symm.trans H; with_reducible exact H2_) | with_reducible exact H | (rw [hy237]; exact H) | exact H
           have Ny237 := Aside0.mk hy237
           clear hy237
           have H' := Aside0.mk H
           clear H
           have hnb29 := NB227_220.out
           have hnc29 := NB220_227.out
           have hnb30 := NB227_221.out
           have hnc30 := NB221_227.out
           have hnb31 := NB227_222.out
           have hnc31 := NB222_227.out
           have hcz32_0 : wc.cell? ⟨gb227, 0, none⟩ = some (.int .i64 t223) := bc BK227 0
           have hcz32_1 : wc.cell? ⟨gb227, 1, none⟩ = some (.int .i64 t224) := bc BK227 1
           have hfz32_0 := blk_frozen BK227.out 0
           have hfz32_1 := blk_frozen BK227.out 1
           try go_wp2_with (first | ((with_reducible refine gate_dst (N := 13) rfl ?_); refine box_event ?hg (N := 13) ?hd (cs := #[.int .i64 0, .int .i64 0]) (t := 25) ?hr ?_; (case hd => rfl); (case hg => rfl); (case hr => first | (go_simp; done) | (go_simp; rfl)); intro gb228 hg w33 hbox hb; have n0_ := Aside0.mk (blk_below (bk BK220.out) hb); have n1_ := Aside0.mk (blk_below (bk BK221.out) hb); have n2_ := Aside0.mk (blk_below (bk BK222.out) hb); have n3_ := Aside0.mk (blk_below (bk BK227.out) hb); have n4_ := Aside0.mk (below_step (q2 HB.out GE220.out GE221.out GE222.out GE227.out) hb); have n5_ := Aside0.mk (hbox); have n6_ := Aside0.mk ((by rw [hg]; exact (below_size (q2 HB.out GE220.out GE221.out GE222.out GE227.out)) : w.heap.size ≤ gb228)); have n7_ := Aside0.mk ((by rw [hg]; exact (below_size (q2 HB.out GE220.out GE221.out GE222.out GE227.out)) : w.heap.size ≤ gb228)); have n8_ := Aside0.mk ((by rw [hg]; exact Nat.ne_of_lt (blk_lt (g := gb220) (o := .cells #[.int .i64 a0_0] 27 (0, 0)) (bk BK220.out)) : gb220 ≠ gb228)); have n9_ := Aside0.mk ((by rw [hg]; exact Nat.ne_of_gt (blk_lt (g := gb220) (o := .cells #[.int .i64 a0_0] 27 (0, 0)) (bk BK220.out)) : gb228 ≠ gb220)); have n10_ := Aside0.mk ((by rw [hg]; exact Nat.ne_of_lt (blk_lt (g := gb221) (o := .cells #[.int .i64 a1_0, .int .i64 a1_1] 23 (0, 0)) (bk BK221.out)) : gb221 ≠ gb228)); have n11_ := Aside0.mk ((by rw [hg]; exact Nat.ne_of_gt (blk_lt (g := gb221) (o := .cells #[.int .i64 a1_0, .int .i64 a1_1] 23 (0, 0)) (bk BK221.out)) : gb228 ≠ gb221)); have n12_ := Aside0.mk ((by rw [hg]; exact Nat.ne_of_lt (blk_lt (g := gb222) (o := .cells #[.int .i64 a2_0, .int .i64 a2_1] 23 (0, 0)) (bk BK222.out)) : gb222 ≠ gb228)); have n13_ := Aside0.mk ((by rw [hg]; exact Nat.ne_of_gt (blk_lt (g := gb222) (o := .cells #[.int .i64 a2_0, .int .i64 a2_1] 23 (0, 0)) (bk BK222.out)) : gb228 ≠ gb222)); have n14_ := Aside0.mk ((by rw [hg]; exact Nat.ne_of_lt (blk_lt (g := gb227) (o := .cells #[.int .i64 t223, .int .i64 t224] 25 (0, 0)) (bk BK227.out)) : gb227 ≠ gb228)); have n15_ := Aside0.mk ((by rw [hg]; exact Nat.ne_of_gt (blk_lt (g := gb227) (o := .cells #[.int .i64 t223, .int .i64 t224] 25 (0, 0)) (bk BK227.out)) : gb228 ≠ gb227)); clear BK220; clear BK221; clear BK222; clear BK227; clear HB; have BK220 := n0_; have BK221 := n1_; have BK222 := n2_; have BK227 := n3_; have HB := n4_; have BK228 := n5_; have GW228 := n6_; have GE228 := n7_; have NB220_228 := n8_; have NB228_220 := n9_; have NB221_228 := n10_; have NB228_221 := n11_; have NB222_228 := n12_; have NB228_222 := n13_; have NB227_228 := n14_; have NB228_227 := n15_; clear n0_ n1_ n2_ n3_ n4_ n5_ n6_ n7_ n8_ n9_ n10_ n11_ n12_ n13_ n14_ n15_; clear hb hbox hg; have hnb34 := NB228_220.out; have hnc34 := NB220_228.out; have hnb35 := NB228_221.out; have hnc35 := NB221_228.out; have hnb36 := NB228_222.out; have hnc36 := NB222_228.out; have hnb37 := NB228_227.out; have hnc37 := NB227_228.out; have hcz38_0 : w33.cell? ⟨gb228, 0, none⟩ = some (.int .i64 0) := bc BK228 0; have hcz38_1 : w33.cell? ⟨gb228, 1, none⟩ = some (.int .i64 0) := bc BK228 1; have hfz38_0 := blk_frozen BK228.out 0; have hfz38_1 := blk_frozen BK228.out 1))
           have n0_ : Aside0 (((w33.setCell ⟨gb228, 0, none⟩ (.int .i64 (wrap64 (t223 + x11_1)))).setCell ⟨gb228, 1, none⟩ (.int .i64 (wrap64 (t224 + x12_3)))).heap[gb220]? = some (.cells #[.int .i64 a0_0] 27 (0, 0))) := ⟨(bp1 BK220.out NB220_228.out)⟩
           have n1_ : Aside0 (((w33.setCell ⟨gb228, 0, none⟩ (.int .i64 (wrap64 (t223 + x11_1)))).setCell ⟨gb228, 1, none⟩ (.int .i64 (wrap64 (t224 + x12_3)))).heap[gb221]? = some (.cells #[.int .i64 a1_0, .int .i64 a1_1] 23 (0, 0))) := ⟨(bp1 BK221.out NB221_228.out)⟩
           have n2_ : Aside0 (((w33.setCell ⟨gb228, 0, none⟩ (.int .i64 (wrap64 (t223 + x11_1)))).setCell ⟨gb228, 1, none⟩ (.int .i64 (wrap64 (t224 + x12_3)))).heap[gb222]? = some (.cells #[.int .i64 a2_0, .int .i64 a2_1] 23 (0, 0))) := ⟨(bp1 BK222.out NB222_228.out)⟩
           have n3_ : Aside0 (((w33.setCell ⟨gb228, 0, none⟩ (.int .i64 (wrap64 (t223 + x11_1)))).setCell ⟨gb228, 1, none⟩ (.int .i64 (wrap64 (t224 + x12_3)))).heap[gb227]? = some (.cells #[.int .i64 t223, .int .i64 t224] 25 (0, 0))) := ⟨(bp1 BK227.out NB227_228.out)⟩
           have n4_ : Aside0 (((w33.setCell ⟨gb228, 0, none⟩ (.int .i64 (wrap64 (t223 + x11_1)))).setCell ⟨gb228, 1, none⟩ (.int .i64 (wrap64 (t224 + x12_3)))).heap[gb228]? = some (.cells #[.int .i64 (wrap64 (t223 + x11_1)), .int .i64 (wrap64 (t224 + x12_3))] 25 (0, 0))) := ⟨(bp0 BK228.out)⟩
           have n5_ : Aside0 (Below w.heap.size w ((w33.setCell ⟨gb228, 0, none⟩ (.int .i64 (wrap64 (t223 + x11_1)))).setCell ⟨gb228, 1, none⟩ (.int .i64 (wrap64 (t224 + x12_3))))) := ⟨by exact q3 HB.out GE220.out GE221.out GE222.out GE227.out GE228.out⟩
           (try clear BK220)
           (try clear BK221)
           (try clear BK222)
           (try clear BK227)
           (try clear BK228)
           (try clear HB)
           generalize ((w33.setCell ⟨gb228, 0, none⟩ (.int .i64 (wrap64 (t223 + x11_1)))).setCell ⟨gb228, 1, none⟩ (.int .i64 (wrap64 (t224 + x12_3)))) = w39 at n0_ n1_ n2_ n3_ n4_ n5_ ⊢
           have BK220 := n0_
           have BK221 := n1_
           have BK222 := n2_
           have BK227 := n3_
           have BK228 := n4_
           have HB := n5_
           clear n0_ n1_ n2_ n3_ n4_ n5_
           have n0_ := Aside0.mk (blk_drew BK220.out)
           have n1_ := Aside0.mk (blk_drew BK221.out)
           have n2_ := Aside0.mk (blk_drew BK222.out)
           have n3_ := Aside0.mk (blk_drew BK227.out)
           have n4_ := Aside0.mk (blk_drew BK228.out)
           have n5_ := Aside0.mk (below_drew1 HB.out)
           clear BK220
           clear BK221
           clear BK222
           clear BK227
           clear BK228
           clear HB
           have BK220 := n0_
           have BK221 := n1_
           have BK222 := n2_
           have BK227 := n3_
           have BK228 := n4_
           have HB := n5_
           clear n0_ n1_ n2_ n3_ n4_ n5_
           refine start_ (n := 30) (S := fun w' => w'.cell? ⟨gb220, 0, none⟩ = some (.int .i64 a0_0) ∧ w'.cell? ⟨gb228, 0, none⟩ = some (.int .i64 (wrap64 (t223 + x11_1))) ∧ w'.cell? ⟨gb228, 1, none⟩ = some (.int .i64 (wrap64 (t224 + x12_3)))) (ds := []) #[false, false, false, false, false, false, false, false, false, false, false, false, false, false, false, false, false, false, false, false, false, false, false, false, false, false, false, false, false, false] (by kernel_rfl) rfl rfl ⟨bc BK220 0, bc BK228 0, bc BK228 1⟩ (fun hHeld => ?_); refine with_tabW glebelaw06_cells.tab10 glebelaw06_cells.bits10 (fun HT_ HW_ => ?_)
           generalize w39.drew = w40 at BK220 BK221 BK222 BK227 BK228 HB hHeld ⊢
           refine pure_ (i := 1) (N := some 54) (v := ?_) (a' := ?_) #[false, true, false, false, false, false, false, false, false, false, false, false, false, false, false, false, false, false, false, false, false, false, false, false, false, false, false, false, false, false] rfl rfl (any_of HT_.out (by kernel_rfl)) (fun _ _ _ h => h) (Or.inl ⟨by rfl, ?_⟩) ?_ ?_
           rotate_left
           ·intro w'
            go_simp
            with_reducible rfl
           rotate_left
           ·simp only [Act.put, List.setIfInBounds_toArray, List.set_cons_zero, List.set_cons_succ, i64_w, i32_w]
            rfl
           refine pure_ (i := 4) (N := some 57) (v := ?_) (a' := ?_) #[false, true, false, false, true, false, false, false, false, false, false, false, false, false, false, false, false, false, false, false, false, false, false, false, false, false, false, false, false, false] rfl rfl (any_of HT_.out (by kernel_rfl)) (fun _ _ _ h => h) (Or.inl ⟨by rfl, ?_⟩) ?_ ?_
           rotate_left
           ·intro w'
            go_simp
            with_reducible rfl
           rotate_left
           ·simp only [Act.put, List.setIfInBounds_toArray, List.set_cons_zero, List.set_cons_succ, i64_w, i32_w]
            rfl
           refine pure_ (i := 8) (N := some 61) (v := ?_) (a' := ?_) #[false, true, false, false, true, false, false, false, true, false, false, false, false, false, false, false, false, false, false, false, false, false, false, false, false, false, false, false, false, false] rfl rfl (any_of HT_.out (by kernel_rfl)) (fun _ _ _ h => h) (Or.inl ⟨by rfl, ?_⟩) ?_ ?_
           rotate_left
           ·intro w'
            go_simp
            with_reducible rfl
           rotate_left
           ·simp only [Act.put, List.setIfInBounds_toArray, List.set_cons_zero, List.set_cons_succ, i64_w, i32_w]
            rfl
           refine pure_ (i := 11) (N := some 64) (v := ?_) (a' := ?_) #[false, true, false, false, true, false, false, false, true, false, false, true, false, false, false, false, false, false, false, false, false, false, false, false, false, false, false, false, false, false] rfl rfl (any_of HT_.out (by kernel_rfl)) (fun _ _ _ h => h) (Or.inl ⟨by rfl, ?_⟩) ?_ ?_
           rotate_left
           ·intro w'
            go_simp
            with_reducible rfl
           rotate_left
           ·simp only [Act.put, List.setIfInBounds_toArray, List.set_cons_zero, List.set_cons_succ, i64_w, i32_w]
            rfl
           refine pure_ (i := 15) (N := some 68) (v := ?_) (a' := ?_) #[false, true, false, false, true, false, false, false, true, false, false, true, false, false, false, true, false, false, false, false, false, false, false, false, false, false, false, false, false, false] rfl rfl (any_of HT_.out (by kernel_rfl)) (fun _ _ _ h => h) (Or.inl ⟨by rfl, ?_⟩) ?_ ?_
           rotate_left
           ·intro w'
            go_simp
            with_reducible rfl
           rotate_left
           ·simp only [Act.put, List.setIfInBounds_toArray, List.set_cons_zero, List.set_cons_succ, i64_w, i32_w]
            rfl
           refine pure_ (i := 17) (N := some 70) (v := ?_) (a' := ?_) #[false, true, false, false, true, false, false, false, true, false, false, true, false, false, false, true, false, true, false, false, false, false, false, false, false, false, false, false, false, false] rfl rfl (any_of HT_.out (by kernel_rfl)) (fun _ _ _ h => h) (Or.inl ⟨by rfl, ?_⟩) ?_ ?_
           rotate_left
           ·intro w'
            go_simp
            with_reducible rfl
           rotate_left
           ·simp only [Act.put, List.setIfInBounds_toArray, List.set_cons_zero, List.set_cons_succ, i64_w, i32_w]
            rfl
           refine pure_ (i := 22) (N := some 75) (v := ?_) (a' := ?_) #[false, true, false, false, true, false, false, false, true, false, false, true, false, false, false, true, false, true, false, false, false, false, true, false, false, false, false, false, false, false] rfl rfl (any_of HT_.out (by kernel_rfl)) (fun _ _ _ h => h) (Or.inl ⟨by rfl, ?_⟩) ?_ ?_
           rotate_left
           ·intro w'
            go_simp
            with_reducible rfl
           rotate_left
           ·simp only [Act.put, List.setIfInBounds_toArray, List.set_cons_zero, List.set_cons_succ, i64_w, i32_w]
            rfl
           refine pure_ (i := 24) (N := some 77) (v := ?_) (a' := ?_) #[false, true, false, false, true, false, false, false, true, false, false, true, false, false, false, true, false, true, false, false, false, false, true, false, true, false, false, false, false, false] rfl rfl (any_of HT_.out (by kernel_rfl)) (fun _ _ _ h => h) (Or.inl ⟨by rfl, ?_⟩) ?_ ?_
           rotate_left
           ·intro w'
            go_simp
            with_reducible rfl
           rotate_left
           ·simp only [Act.put, List.setIfInBounds_toArray, List.set_cons_zero, List.set_cons_succ, i64_w, i32_w]
            rfl
           refine take_ (i := 0) (N := some 53) (v := ?_) (a' := ?_) #[true, true, false, false, true, false, false, false, true, false, false, true, false, false, false, true, false, true, false, false, false, false, true, false, true, false, false, false, false, false] rfl rfl (take_ofW HT_.out HW_.out (by kernel_rfl)) (fun _ _ _ h => h) (Or.inl ⟨by rfl, ?_⟩) hHeld ?_ ?_
           rotate_left
           ·rintro w' ⟨s0, s1, s2⟩
            go_simp
            with_reducible rfl
           rotate_left
           ·simp only [Act.put, List.setIfInBounds_toArray, List.set_cons_zero, List.set_cons_succ, i64_w, i32_w]
            rfl
           refine take_ (i := 2) (N := some 55) (v := ?_) (a' := ?_) #[true, true, true, false, true, false, false, false, true, false, false, true, false, false, false, true, false, true, false, false, false, false, true, false, true, false, false, false, false, false] rfl rfl (take_ofW HT_.out HW_.out (by kernel_rfl)) (fun _ _ _ h => h) (Or.inl ⟨by rfl, ?_⟩) hHeld ?_ ?_
           rotate_left
           ·rintro w' ⟨s0, s1, s2⟩
            go_simp
            with_reducible rfl
           rotate_left
           ·simp only [Act.put, List.setIfInBounds_toArray, List.set_cons_zero, List.set_cons_succ, i64_w, i32_w]
            rfl
           refine pure_ (i := 3) (N := some 56) (v := ?_) (a' := ?_) #[true, true, true, true, true, false, false, false, true, false, false, true, false, false, false, true, false, true, false, false, false, false, true, false, true, false, false, false, false, false] rfl rfl (any_of HT_.out (by kernel_rfl)) (fun _ _ _ h => h) (Or.inl ⟨by rfl, ?_⟩) ?_ ?_
           rotate_left
           ·intro w'
            go_simp
            with_reducible rfl
           rotate_left
           ·simp only [Act.put, List.setIfInBounds_toArray, List.set_cons_zero, List.set_cons_succ, i64_w, i32_w]
            rfl
           refine take_ (i := 5) (N := some 58) (v := ?_) (a' := ?_) #[true, true, true, true, true, true, false, false, true, false, false, true, false, false, false, true, false, true, false, false, false, false, true, false, true, false, false, false, false, false] rfl rfl (take_ofW HT_.out HW_.out (by kernel_rfl)) (fun _ _ _ h => h) (Or.inl ⟨by rfl, ?_⟩) hHeld ?_ ?_
           rotate_left
           ·rintro w' ⟨s0, s1, s2⟩
            go_simp
            with_reducible rfl
           rotate_left
           ·simp only [Act.put, List.setIfInBounds_toArray, List.set_cons_zero, List.set_cons_succ, i64_w, i32_w]
            rfl
           refine take_ (i := 7) (N := some 60) (v := ?_) (a' := ?_) #[true, true, true, true, true, true, false, true, true, false, false, true, false, false, false, true, false, true, false, false, false, false, true, false, true, false, false, false, false, false] rfl rfl (take_ofW HT_.out HW_.out (by kernel_rfl)) (fun _ _ _ h => h) (Or.inl ⟨by rfl, ?_⟩) hHeld ?_ ?_
           rotate_left
           ·rintro w' ⟨s0, s1, s2⟩
            go_simp
            with_reducible rfl
           rotate_left
           ·simp only [Act.put, List.setIfInBounds_toArray, List.set_cons_zero, List.set_cons_succ, i64_w, i32_w]
            rfl
           refine take_ (i := 9) (N := some 62) (v := ?_) (a' := ?_) #[true, true, true, true, true, true, false, true, true, true, false, true, false, false, false, true, false, true, false, false, false, false, true, false, true, false, false, false, false, false] rfl rfl (take_ofW HT_.out HW_.out (by kernel_rfl)) (fun _ _ _ h => h) (Or.inl ⟨by rfl, ?_⟩) hHeld ?_ ?_
           rotate_left
           ·rintro w' ⟨s0, s1, s2⟩
            go_simp
            with_reducible rfl
           rotate_left
           ·simp only [Act.put, List.setIfInBounds_toArray, List.set_cons_zero, List.set_cons_succ, i64_w, i32_w]
            rfl
           refine pure_ (i := 10) (N := some 63) (v := ?_) (a' := ?_) #[true, true, true, true, true, true, false, true, true, true, true, true, false, false, false, true, false, true, false, false, false, false, true, false, true, false, false, false, false, false] rfl rfl (any_of HT_.out (by kernel_rfl)) (fun _ _ _ h => h) (Or.inl ⟨by rfl, ?_⟩) ?_ ?_
           rotate_left
           ·intro w'
            go_simp
            with_reducible rfl
           rotate_left
           ·simp only [Act.put, List.setIfInBounds_toArray, List.set_cons_zero, List.set_cons_succ, i64_w, i32_w]
            rfl
           refine take_ (i := 12) (N := some 65) (v := ?_) (a' := ?_) #[true, true, true, true, true, true, false, true, true, true, true, true, true, false, false, true, false, true, false, false, false, false, true, false, true, false, false, false, false, false] rfl rfl (take_ofW HT_.out HW_.out (by kernel_rfl)) (fun _ _ _ h => h) (Or.inl ⟨by rfl, ?_⟩) hHeld ?_ ?_
           rotate_left
           ·rintro w' ⟨s0, s1, s2⟩
            go_simp
            with_reducible rfl
           rotate_left
           ·simp only [Act.put, List.setIfInBounds_toArray, List.set_cons_zero, List.set_cons_succ, i64_w, i32_w]
            rfl
           refine take_ (i := 14) (N := some 67) (v := ?_) (a' := ?_) #[true, true, true, true, true, true, false, true, true, true, true, true, true, false, true, true, false, true, false, false, false, false, true, false, true, false, false, false, false, false] rfl rfl (take_ofW HT_.out HW_.out (by kernel_rfl)) (fun _ _ _ h => h) (Or.inl ⟨by rfl, ?_⟩) hHeld ?_ ?_
           rotate_left
           ·rintro w' ⟨s0, s1, s2⟩
            go_simp
            with_reducible rfl
           rotate_left
           ·simp only [Act.put, List.setIfInBounds_toArray, List.set_cons_zero, List.set_cons_succ, i64_w, i32_w]
            rfl
           refine take_ (i := 16) (N := some 69) (v := ?_) (a' := ?_) #[true, true, true, true, true, true, false, true, true, true, true, true, true, false, true, true, true, true, false, false, false, false, true, false, true, false, false, false, false, false] rfl rfl (take_ofW HT_.out HW_.out (by kernel_rfl)) (fun _ _ _ h => h) (Or.inl ⟨by rfl, ?_⟩) hHeld ?_ ?_
           rotate_left
           ·rintro w' ⟨s0, s1, s2⟩
            go_simp
            with_reducible rfl
           rotate_left
           ·simp only [Act.put, List.setIfInBounds_toArray, List.set_cons_zero, List.set_cons_succ, i64_w, i32_w]
            rfl
           refine take_ (i := 18) (N := some 71) (v := ?_) (a' := ?_) #[true, true, true, true, true, true, false, true, true, true, true, true, true, false, true, true, true, true, true, false, false, false, true, false, true, false, false, false, false, false] rfl rfl (take_ofW HT_.out HW_.out (by kernel_rfl)) (fun _ _ _ h => h) (Or.inl ⟨by rfl, ?_⟩) hHeld ?_ ?_
           rotate_left
           ·rintro w' ⟨s0, s1, s2⟩
            go_simp
            with_reducible rfl
           rotate_left
           ·simp only [Act.put, List.setIfInBounds_toArray, List.set_cons_zero, List.set_cons_succ, i64_w, i32_w]
            rfl
           refine pure_ (i := 19) (N := some 72) (v := ?_) (a' := ?_) #[true, true, true, true, true, true, false, true, true, true, true, true, true, false, true, true, true, true, true, true, false, false, true, false, true, false, false, false, false, false] rfl rfl (any_of HT_.out (by kernel_rfl)) (fun _ _ _ h => h) (Or.inl ⟨by rfl, ?_⟩) ?_ ?_
           rotate_left
           ·intro w'
            go_simp
            with_reducible rfl
           rotate_left
           ·simp only [Act.put, List.setIfInBounds_toArray, List.set_cons_zero, List.set_cons_succ, i64_w, i32_w]
            rfl
           refine take_ (i := 21) (N := some 74) (v := ?_) (a' := ?_) #[true, true, true, true, true, true, false, true, true, true, true, true, true, false, true, true, true, true, true, true, false, true, true, false, true, false, false, false, false, false] rfl rfl (take_ofW HT_.out HW_.out (by kernel_rfl)) (fun _ _ _ h => h) (Or.inl ⟨by rfl, ?_⟩) hHeld ?_ ?_
           rotate_left
           ·rintro w' ⟨s0, s1, s2⟩
            go_simp
            with_reducible rfl
           rotate_left
           ·simp only [Act.put, List.setIfInBounds_toArray, List.set_cons_zero, List.set_cons_succ, i64_w, i32_w]
            rfl
           refine take_ (i := 23) (N := some 76) (v := ?_) (a' := ?_) #[true, true, true, true, true, true, false, true, true, true, true, true, true, false, true, true, true, true, true, true, false, true, true, true, true, false, false, false, false, false] rfl rfl (take_ofW HT_.out HW_.out (by kernel_rfl)) (fun _ _ _ h => h) (Or.inl ⟨by rfl, ?_⟩) hHeld ?_ ?_
           rotate_left
           ·rintro w' ⟨s0, s1, s2⟩
            go_simp
            with_reducible rfl
           rotate_left
           ·simp only [Act.put, List.setIfInBounds_toArray, List.set_cons_zero, List.set_cons_succ, i64_w, i32_w]
            rfl
           refine take_ (i := 25) (N := some 78) (v := ?_) (a' := ?_) #[true, true, true, true, true, true, false, true, true, true, true, true, true, false, true, true, true, true, true, true, false, true, true, true, true, true, false, false, false, false] rfl rfl (take_ofW HT_.out HW_.out (by kernel_rfl)) (fun _ _ _ h => h) (Or.inl ⟨by rfl, ?_⟩) hHeld ?_ ?_
           rotate_left
           ·rintro w' ⟨s0, s1, s2⟩
            go_simp
            with_reducible rfl
           rotate_left
           ·simp only [Act.put, List.setIfInBounds_toArray, List.set_cons_zero, List.set_cons_succ, i64_w, i32_w]
            rfl
           refine pure_ (i := 26) (N := some 79) (v := ?_) (a' := ?_) #[true, true, true, true, true, true, false, true, true, true, true, true, true, false, true, true, true, true, true, true, false, true, true, true, true, true, true, false, false, false] rfl rfl (any_of HT_.out (by kernel_rfl)) (fun _ _ _ h => h) (Or.inl ⟨by rfl, ?_⟩) ?_ ?_
           rotate_left
           ·intro w'
            go_simp
            with_reducible rfl
           rotate_left
           ·simp only [Act.put, List.setIfInBounds_toArray, List.set_cons_zero, List.set_cons_succ, i64_w, i32_w]
            rfl
           refine one_ (i := 6) (N := some 59) #[true, true, true, true, true, true, true, true, true, true, true, true, true, false, true, true, true, true, true, true, false, true, true, true, true, true, true, false, false, false] rfl rfl (one_of HT_.out (by kernel_rfl)) (by decide) (fun K hK => ?_)
           refine goes_ Try.func57 (by kernel_rfl) rfl #[.agg #[.int .i64 a0_0], .int .i64 (wrap64 ((wrap64 (t223 + x11_1)) + 1)), .int .i64 (wrap64 (t224 + x12_3))] (by rfl) rfl rfl (by (try simp only [List.map_toArray, List.map_cons, List.map_nil]); first | done | rfl | (simp only [List.length_drop, List.length_take]; rfl)) ?_
           with_reducible refine (torus_Torus_Wrap.calls a0_0 (wrap64 ((wrap64 (t223 + x11_1)) + 1)) (wrap64 (t224 + x12_3)) t229 t230 _ A25.out).mono ?_
           rintro e w41 ⟨rfl, hb⟩
           refine ⟨_, rfl, ?_⟩
           have n0_ := Aside0.mk (blk_below (bk BK220.out) hb)
           have n1_ := Aside0.mk (blk_below (bk BK221.out) hb)
           have n2_ := Aside0.mk (blk_below (bk BK222.out) hb)
           have n3_ := Aside0.mk (blk_below (bk BK227.out) hb)
           have n4_ := Aside0.mk (blk_below (bk BK228.out) hb)
           have n5_ := Aside0.mk (below_step (q3 HB.out GE220.out GE221.out GE222.out GE227.out GE228.out) hb)
           clear BK220
           clear BK221
           clear BK222
           clear BK227
           clear BK228
           clear HB
           have BK220 := n0_
           have BK221 := n1_
           have BK222 := n2_
           have BK227 := n3_
           have BK228 := n4_
           have HB := n5_
           clear n0_ n1_ n2_ n3_ n4_ n5_
           (try clear hb)
           (try clear hb2)
           (try clear hk)
           (try clear hi)
           refine hK.out _ _ ⟨bc BK220 0, bc BK228 0, bc BK228 1⟩ (fun hHeld => ?_)
           clear hK K
           refine norm_ (a' := ?_) ?_ ?_
           rotate_left
           ·show Act.put _ (some 59) _ = _
            simp only [Act.put, List.setIfInBounds_toArray, List.set_cons_zero, List.set_cons_succ, i64_w, i32_w]
            rfl
           refine one_ (i := 13) (N := some 66) #[true, true, true, true, true, true, true, true, true, true, true, true, true, true, true, true, true, true, true, true, false, true, true, true, true, true, true, false, false, false] rfl rfl (one_of HT_.out (by kernel_rfl)) (by decide) (fun K hK => ?_)
           refine goes_ Try.func57 (by kernel_rfl) rfl #[.agg #[.int .i64 a0_0], .int .i64 (wrap64 ((wrap64 (t223 + x11_1)) - 1)), .int .i64 (wrap64 (t224 + x12_3))] (by rfl) rfl rfl (by (try simp only [List.map_toArray, List.map_cons, List.map_nil]); first | done | rfl | (simp only [List.length_drop, List.length_take]; rfl)) ?_
           with_reducible refine (torus_Torus_Wrap.calls a0_0 (wrap64 ((wrap64 (t223 + x11_1)) - 1)) (wrap64 (t224 + x12_3)) t231 t232 _ A26.out).mono ?_
           rintro e w42 ⟨rfl, hb⟩
           refine ⟨_, rfl, ?_⟩
           have n0_ := Aside0.mk (blk_below (bk BK220.out) hb)
           have n1_ := Aside0.mk (blk_below (bk BK221.out) hb)
           have n2_ := Aside0.mk (blk_below (bk BK222.out) hb)
           have n3_ := Aside0.mk (blk_below (bk BK227.out) hb)
           have n4_ := Aside0.mk (blk_below (bk BK228.out) hb)
           have n5_ := Aside0.mk (below_step (q3 HB.out GE220.out GE221.out GE222.out GE227.out GE228.out) hb)
           clear BK220
           clear BK221
           clear BK222
           clear BK227
           clear BK228
           clear HB
           have BK220 := n0_
           have BK221 := n1_
           have BK222 := n2_
           have BK227 := n3_
           have BK228 := n4_
           have HB := n5_
           clear n0_ n1_ n2_ n3_ n4_ n5_
           (try clear hb)
           (try clear hb2)
           (try clear hk)
           (try clear hi)
           refine hK.out _ _ ⟨bc BK220 0, bc BK228 0, bc BK228 1⟩ (fun hHeld => ?_)
           clear hK K
           refine norm_ (a' := ?_) ?_ ?_
           rotate_left
           ·show Act.put _ (some 66) _ = _
            simp only [Act.put, List.setIfInBounds_toArray, List.set_cons_zero, List.set_cons_succ, i64_w, i32_w]
            rfl
           refine one_ (i := 20) (N := some 73) #[true, true, true, true, true, true, true, true, true, true, true, true, true, true, true, true, true, true, true, true, true, true, true, true, true, true, true, false, false, false] rfl rfl (one_of HT_.out (by kernel_rfl)) (by decide) (fun K hK => ?_)
           refine goes_ Try.func57 (by kernel_rfl) rfl #[.agg #[.int .i64 a0_0], .int .i64 (wrap64 (t223 + x11_1)), .int .i64 (wrap64 ((wrap64 (t224 + x12_3)) + 1))] (by rfl) rfl rfl (by (try simp only [List.map_toArray, List.map_cons, List.map_nil]); first | done | rfl | (simp only [List.length_drop, List.length_take]; rfl)) ?_
           with_reducible refine (torus_Torus_Wrap.calls a0_0 (wrap64 (t223 + x11_1)) (wrap64 ((wrap64 (t224 + x12_3)) + 1)) t233 t234 _ A27.out).mono ?_
           rintro e w43 ⟨rfl, hb⟩
           refine ⟨_, rfl, ?_⟩
           have n0_ := Aside0.mk (blk_below (bk BK220.out) hb)
           have n1_ := Aside0.mk (blk_below (bk BK221.out) hb)
           have n2_ := Aside0.mk (blk_below (bk BK222.out) hb)
           have n3_ := Aside0.mk (blk_below (bk BK227.out) hb)
           have n4_ := Aside0.mk (blk_below (bk BK228.out) hb)
           have n5_ := Aside0.mk (below_step (q3 HB.out GE220.out GE221.out GE222.out GE227.out GE228.out) hb)
           clear BK220
           clear BK221
           clear BK222
           clear BK227
           clear BK228
           clear HB
           have BK220 := n0_
           have BK221 := n1_
           have BK222 := n2_
           have BK227 := n3_
           have BK228 := n4_
           have HB := n5_
           clear n0_ n1_ n2_ n3_ n4_ n5_
           (try clear hb)
           (try clear hb2)
           (try clear hk)
           (try clear hi)
           refine hK.out _ _ ⟨bc BK220 0, bc BK228 0, bc BK228 1⟩ (fun hHeld => ?_)
           clear hK K
           refine norm_ (a' := ?_) ?_ ?_
           rotate_left
           ·show Act.put _ (some 73) _ = _
            simp only [Act.put, List.setIfInBounds_toArray, List.set_cons_zero, List.set_cons_succ, i64_w, i32_w]
            rfl
           refine one_ (i := 27) (N := some 80) #[true, true, true, true, true, true, true, true, true, true, true, true, true, true, true, true, true, true, true, true, true, true, true, true, true, true, true, true, false, false] rfl rfl (one_of HT_.out (by kernel_rfl)) (by decide) (fun K hK => ?_)
           refine goes_ Try.func57 (by kernel_rfl) rfl #[.agg #[.int .i64 a0_0], .int .i64 (wrap64 (t223 + x11_1)), .int .i64 (wrap64 ((wrap64 (t224 + x12_3)) - 1))] (by rfl) rfl rfl (by (try simp only [List.map_toArray, List.map_cons, List.map_nil]); first | done | rfl | (simp only [List.length_drop, List.length_take]; rfl)) ?_
           with_reducible refine (torus_Torus_Wrap.calls a0_0 (wrap64 (t223 + x11_1)) (wrap64 ((wrap64 (t224 + x12_3)) - 1)) t235 t236 _ A28.out).mono ?_
           rintro e w44 ⟨rfl, hb⟩
           refine ⟨_, rfl, ?_⟩
           have n0_ := Aside0.mk (blk_below (bk BK220.out) hb)
           have n1_ := Aside0.mk (blk_below (bk BK221.out) hb)
           have n2_ := Aside0.mk (blk_below (bk BK222.out) hb)
           have n3_ := Aside0.mk (blk_below (bk BK227.out) hb)
           have n4_ := Aside0.mk (blk_below (bk BK228.out) hb)
           have n5_ := Aside0.mk (below_step (q3 HB.out GE220.out GE221.out GE222.out GE227.out GE228.out) hb)
           clear BK220
           clear BK221
           clear BK222
           clear BK227
           clear BK228
           clear HB
           have BK220 := n0_
           have BK221 := n1_
           have BK222 := n2_
           have BK227 := n3_
           have BK228 := n4_
           have HB := n5_
           clear n0_ n1_ n2_ n3_ n4_ n5_
           (try clear hb)
           (try clear hb2)
           (try clear hk)
           (try clear hi)
           refine hK.out _ _ ⟨bc BK220 0, bc BK228 0, bc BK228 1⟩ (fun hHeld => ?_)
           clear hK K
           refine norm_ (a' := ?_) ?_ ?_
           rotate_left
           ·show Act.put _ (some 80) _ = _
            simp only [Act.put, List.setIfInBounds_toArray, List.set_cons_zero, List.set_cons_succ, i64_w, i32_w]
            rfl
           refine one_ (i := 28) (N := some 81) #[true, true, true, true, true, true, true, true, true, true, true, true, true, true, true, true, true, true, true, true, true, true, true, true, true, true, true, true, true, false] rfl rfl (one_of HT_.out (by kernel_rfl)) (by decide) (fun K hK => ?_)
           refine Kd.R_lit_step k25 _ 25 ?hg (N := 81) ?hd (xs := ([(⟨t229, t230⟩ : S25), (⟨t231, t232⟩ : S25), (⟨t233, t234⟩ : S25), (⟨t235, t236⟩ : S25)] : List (S25))) (inner := [.int .i64 t229, .int .i64 t230, .int .i64 t231, .int .i64 t232, .int .i64 t233, .int .i64 t234, .int .i64 t235, .int .i64 t236]) (ok := fun _ => True) (okp := fun _ => True) ?hr ?hp (fun _ hk => hk) trivial (Below.refl _ _) (Nat.le_refl _) (by simp) ?_; (case hd => rfl); (case hg => rfl); (case hr => first | (go_simp; done) | (go_simp; rfl)); (case hp => exact (Reps.c2 (show Kd.M k25 _ _ _ (⟨t229, t230⟩ : S25) [.int .i64 t229, .int .i64 t230] from (k25_mkM _ _ _ (⟨t229, t230⟩ : S25) )) (Reps.c2 (show Kd.M k25 _ _ _ (⟨t231, t232⟩ : S25) [.int .i64 t231, .int .i64 t232] from (k25_mkM _ _ _ (⟨t231, t232⟩ : S25) )) (Reps.c2 (show Kd.M k25 _ _ _ (⟨t233, t234⟩ : S25) [.int .i64 t233, .int .i64 t234] from (k25_mkM _ _ _ (⟨t233, t234⟩ : S25) )) (Reps.c2 (show Kd.M k25 _ _ _ (⟨t235, t236⟩ : S25) [.int .i64 t235, .int .i64 t236] from (k25_mkM _ _ _ (⟨t235, t236⟩ : S25) )) (Reps.none _ _))))))
           intro v238 w45 ho46 hb hg_ hnew_
           clear hg_ hnew_
           (first | rw [← Ny237.out] at ho46 | (simp only [Int.reduceToNat] at ho46; rw [← Ny237.out] at ho46))
           have n0_ := Aside0.mk (Kd.R_lower (Kd.R_newB (Kd.R_newB ho46 (g := gb227) (o := .cells #[.int .i64 t223, .int .i64 t224] 25 (0, 0)) (bk BK227.out)) (g := gb228) (o := .cells #[.int .i64 (wrap64 (t223 + x11_1)), .int .i64 (wrap64 (t224 + x12_3))] 25 (0, 0)) (bk BK228.out)) (below_size (q3 HB.out GE220.out GE221.out GE222.out GE227.out GE228.out)))
           have n1_ := Aside0.mk (blk_below (bk BK220.out) hb)
           have n2_ := Aside0.mk (blk_below (bk BK221.out) hb)
           have n3_ := Aside0.mk (blk_below (bk BK222.out) hb)
           have n4_ := Aside0.mk (blk_below (bk BK227.out) hb)
           have n5_ := Aside0.mk (blk_below (bk BK228.out) hb)
           have n6_ := Aside0.mk (below_step (q3 HB.out GE220.out GE221.out GE222.out GE227.out GE228.out) hb)
           clear BK220
           clear BK221
           clear BK222
           clear BK227
           clear BK228
           clear HB
           have HO239 := n0_
           have BK220 := n1_
           have BK221 := n2_
           have BK222 := n3_
           have BK227 := n4_
           have BK228 := n5_
           have HB := n6_
           clear n0_ n1_ n2_ n3_ n4_ n5_ n6_
           clear hb ho46
           refine hK.out _ _ ⟨bc BK220 0, bc BK228 0, bc BK228 1⟩ (fun hHeld => ?_)
           clear hK K
           refine norm_ (a' := ?_) ?_ ?_
           rotate_left
           ·show Act.put _ (some 81) _ = _
            simp only [Act.put, List.setIfInBounds_toArray, List.set_cons_zero, List.set_cons_succ, i64_w, i32_w]
            rfl
           refine pure_ (i := 29) (N := some 14) (v := ?_) (a' := ?_) #[true, true, true, true, true, true, true, true, true, true, true, true, true, true, true, true, true, true, true, true, true, true, true, true, true, true, true, true, true, true] rfl rfl (any_of HT_.out (by kernel_rfl)) (fun _ _ _ h => h) (Or.inl ⟨by rfl, ?_⟩) ?_ ?_
           rotate_left
           ·intro w'
            go_simp
            with_reducible rfl
           rotate_left
           ·simp only [Act.put, List.setIfInBounds_toArray, List.set_cons_zero, List.set_cons_succ, i64_w, i32_w]
            rfl
           refine done_ (done_of HT_.out (by kernel_rfl)) ?_
           try go_wp2
           go_loopg [10, 15] kj21 (fun kq v10 v15 w' => ∃ (x10_5 : Int) (x15_5 : Int), v10 = .int .i64 x10_5 ∧ v15 = .int .i64 x15_5 ∧ Aside0 (glebelaw06_cells.l2 kq t225 t226 x10_5 x11_1 x12_3 y237 x15_5 a0_0 a2_0 a2_1 t223 t224 = some r) ∧ Aside0 (kq ≤ kj21) ∧ Aside0 (Kd.R k25 25 w' w.heap.size (fun k_ => k_ ≠ gb227 ∧ k_ ≠ gb228) v238 y237) ∧ Aside0 (w'.heap[gb220]? = some (.cells #[.int .i64 a0_0] 27 (0, 0))) ∧ Aside0 (w'.heap[gb221]? = some (.cells #[.int .i64 a1_0, .int .i64 a1_1] 23 (0, 0))) ∧ Aside0 (w'.heap[gb222]? = some (.cells #[.int .i64 a2_0, .int .i64 a2_1] 23 (0, 0))) ∧ Aside0 (w'.heap[gb227]? = some (.cells #[.int .i64 t223, .int .i64 t224] 25 (0, 0))) ∧ Aside0 (w'.heap[gb228]? = some (.cells #[.int .i64 (wrap64 (t223 + x11_1)), .int .i64 (wrap64 (t224 + x12_3))] 25 (0, 0))) ∧ Aside0 (Below w.heap.size w w'))
           case atStart => exact ⟨(x10_3), (0), (by first | rfl | (simp; done) | (simp [*]; done)), (by first | rfl | (simp; done) | (simp [*]; done)), H', ⟨Nat.le_refl _⟩, ⟨by (with_reducible repeat (first | apply Kd.R_alloc | apply Kd.R_drewN | apply Kd.R_drew)); exact Kd.R_mono HO239.out (fun _ hk => ⟨hk.1.2, hk.2⟩)⟩, ⟨by (with_reducible repeat (first | refine blk_drewN ?_ _ | refine blk_drew ?_ | refine blk_alloc ?_ _)); exact BK220.out⟩, ⟨by (with_reducible repeat (first | refine blk_drewN ?_ _ | refine blk_drew ?_ | refine blk_alloc ?_ _)); exact BK221.out⟩, ⟨by (with_reducible repeat (first | refine blk_drewN ?_ _ | refine blk_drew ?_ | refine blk_alloc ?_ _)); exact BK222.out⟩, ⟨by (with_reducible repeat (first | refine blk_drewN ?_ _ | refine blk_drew ?_ | refine blk_alloc ?_ _)); exact BK227.out⟩, ⟨by (with_reducible repeat (first | refine blk_drewN ?_ _ | refine blk_drew ?_ | refine blk_alloc ?_ _)); exact BK228.out⟩, ⟨by exact q3 HB.out GE220.out GE221.out GE222.out GE227.out GE228.out⟩⟩
           case round =>
            clear H'
            try clear c1
            try clear c2
            try clear p2
            try clear c3
            try clear c5
            try clear c6
            try clear p6
            try clear c8
            try clear c9
            try clear c11
            try clear c15
            try clear c16
            try clear c17
            try clear c20
            try clear c20b0
            try clear c21
            try clear c23
            try clear c23b0
            try clear c24
            try clear c29
            try clear c30
            try clear c31
            try clear c34
            try clear c35
            try clear c36
            try clear c37
            try clear hcz10_0
            try clear hcz12_0
            try clear hcz12_1
            try clear hcz18_0
            try clear hcz18_1
            try clear hcz32_0
            try clear hcz32_1
            try clear hcz38_0
            try clear hcz38_1
            try clear hfz10_0
            try clear hfz12_0
            try clear hfz12_1
            try clear hfz18_0
            try clear hfz18_1
            try clear hfz32_0
            try clear hfz32_1
            try clear hfz38_0
            try clear hfz38_1
            try clear p2
            obtain ⟨x10_5, x15_5, rfl, rfl, HA, HK5, HO_14, BK220, BK221, BK222, BK227, BK228, HB⟩ := hrel
            cases gk with
            | zero => exact absurd HA.out (by simp [glebelaw06_cells.l2])
            | succ k5 =>
             have H := HA.out
             clear HA
             simp only [glebelaw06_cells.l2] at H
             by_cases c47 : x15_5 < 4
             ·rw [if_pos c47] at H
              have c47b0 : decide (x15_5 < 4) = true := decide_eq_true c47
              clear c47
              have HC48 := Aside0.mk H
              clear H
              go_upto_region 14 with (fail)
              go_cut [16] (fun v16 wc => ∃ (kq : Nat) (x16_47 : Bool), v16 = .bool x16_47 ∧ Aside0 (glebelaw06_cells.j5 kq t225 t226 x10_5 x11_1 x12_3 y237 x15_5 x16_47 a0_0 a2_0 a2_1 t223 t224 = some r) ∧ Aside0 (kq ≤ k5) ∧ Aside0 (Kd.R k25 25 wc w.heap.size (fun k_ => k_ ≠ gb227 ∧ k_ ≠ gb228) v238 y237) ∧ Aside0 (wc.heap[gb220]? = some (.cells #[.int .i64 a0_0] 27 (0, 0))) ∧ Aside0 (wc.heap[gb221]? = some (.cells #[.int .i64 a1_0, .int .i64 a1_1] 23 (0, 0))) ∧ Aside0 (wc.heap[gb222]? = some (.cells #[.int .i64 a2_0, .int .i64 a2_1] 23 (0, 0))) ∧ Aside0 (wc.heap[gb227]? = some (.cells #[.int .i64 t223, .int .i64 t224] 25 (0, 0))) ∧ Aside0 (wc.heap[gb228]? = some (.cells #[.int .i64 (wrap64 (t223 + x11_1)), .int .i64 (wrap64 (t224 + x12_3))] 25 (0, 0))) ∧ Aside0 (Below w.heap.size w wc))
              case first =>
               have H := HC48.out
               clear HC48
               by_cases c49 : (Int.tmod x15_5 2) = 1
               ·rw [if_pos c49] at H
                have c49b0 : ((Int.tmod x15_5 2) == 1) = true := beq_iff_eq.mpr c49
                have c49b1 : ((Int.tmod x15_5 2) != 1) = false := bne_eq_false_iff_eq.mpr c49
                clear c49
                (first | rw [c49b0] | (simp only [i64_w, i32_w]; rw [c49b0]) | skip)
                by_cases c50 : 0 ≤ x15_5
                ·rw [if_pos c50] at H
                 have c50b0 : decide (0 ≤ x15_5) = true := decide_eq_true c50
                 clear c50
                 by_cases c51 : x15_5 < (y237.length : Int)
                 ·rw [if_pos c51] at H
                  have c51b0 : decide (x15_5 < (y237.length : Int)) = true := decide_eq_true c51
                  clear c51
                  obtain ⟨ji52, hji52⟩ : ∃ j_ : Int, (wrap64 (x15_5 - 1)) = j_ := ⟨_, rfl⟩
                  replace H : (if 0 ≤ (ji52) then (if (ji52) < (y237.length : Int) then (glebelaw06_cells.j5 k5 t225 t226 x10_5 x11_1 x12_3 y237 x15_5 (((rd_T25 y237 x15_5).f0) == ((rd_T25 y237 (ji52)).f0) && (((rd_T25 y237 x15_5).f1) == ((rd_T25 y237 (ji52)).f1))) a0_0 a2_0 a2_1 t223 t224) else (none)) else (none)) = some r := by first | (rw [hji52] at H; exact H) | (simp only [hji52] at H ⊢; exact H)
                  have hji52w : (IntKind.i64.wrap (x15_5 - 1)) = ji52 := (i64_w _).trans hji52
                  by_cases c53 : 0 ≤ (ji52)
                  ·rw [if_pos c53] at H
                   have c53b0 : decide (0 ≤ (ji52)) = true := decide_eq_true c53
                   clear c53
                   by_cases c54 : (ji52) < (y237.length : Int)
                   ·rw [if_pos c54] at H
                    have c54b0 : decide ((ji52) < (y237.length : Int)) = true := decide_eq_true c54
                    clear c54
                    have H' := Aside0.mk H
                    clear H
                    try go_wp2
                    have n0_ := Aside0.mk (Kd.R_drew HO_14.out)
                    have n1_ := Aside0.mk (blk_drew BK220.out)
                    have n2_ := Aside0.mk (blk_drew BK221.out)
                    have n3_ := Aside0.mk (blk_drew BK222.out)
                    have n4_ := Aside0.mk (blk_drew BK227.out)
                    have n5_ := Aside0.mk (blk_drew BK228.out)
                    have n6_ := Aside0.mk (below_drew1 HB.out)
                    clear HO_14
                    clear BK220
                    clear BK221
                    clear BK222
                    clear BK227
                    clear BK228
                    clear HB
                    have HO_14 := n0_
                    have BK220 := n1_
                    have BK221 := n2_
                    have BK222 := n3_
                    have BK227 := n4_
                    have BK228 := n5_
                    have HB := n6_
                    clear n0_ n1_ n2_ n3_ n4_ n5_ n6_
                    obtain ⟨Ao56, co56, eo56⟩ := Kd.R_slice HO_14.out
                    (first | subst eo56 | (injection eo56 with f1_ f2_ f3_; have f4_ := f1_.symm; have f5_ := f3_.symm; clear f1_ f2_ f3_; subst f4_; subst f5_))
                    have p240 : 0 ≤ (x15_5 : Int) := of_decide_eq_true (by first | (with_reducible assumption) | assumption)
                    have q240 : x15_5 < (y237.length : Int) := of_decide_eq_true (by first | (with_reducible assumption) | assumption)
                    obtain ⟨ad240, e240, hx240_0, hx240_1⟩ := at_T25 (Kd.R_reads' HO_14.out).2.2 x15_5 p240 q240
                    cases e240
                    replace p240 := eq_true p240
                    replace q240 := eq_true q240
                    have p241 : 0 ≤ ((ji52) : Int) := of_decide_eq_true (by first | (with_reducible assumption) | assumption)
                    have q241 : (ji52) < (y237.length : Int) := of_decide_eq_true (by first | (with_reducible assumption) | assumption)
                    obtain ⟨ad241, e241, hx241_0, hx241_1⟩ := at_T25 (Kd.R_reads' HO_14.out).2.2 (ji52) p241 q241
                    obtain rfl : ad240 = ad241 := (by injection e241)
                    replace p241 := eq_true p241
                    replace q241 := eq_true q241
                    refine start_ (n := 16) (S := fun w' => w'.cell? (ad240.add ((x15_5).toNat * 2)) = some (.int .i64 ((rd_T25 y237 x15_5).f0)) ∧ w'.cell? ⟨(ad240.add ((x15_5).toNat * 2)).block, (ad240.add ((x15_5).toNat * 2)).off + 1, none⟩ = some (.int .i64 ((rd_T25 y237 x15_5).f1)) ∧ w'.cell? (ad240.add (((ji52)).toNat * 2)) = some (.int .i64 ((rd_T25 y237 (ji52)).f0)) ∧ w'.cell? ⟨(ad240.add (((ji52)).toNat * 2)).block, (ad240.add (((ji52)).toNat * 2)).off + 1, none⟩ = some (.int .i64 ((rd_T25 y237 (ji52)).f1))) (ds := []) #[false, false, false, false, false, false, false, false, false, false, false, false, false, false, false, false] (by kernel_rfl) rfl rfl ⟨hx240_0, hx240_1, hx241_0, hx241_1⟩ (fun hHeld => ?_); refine with_tabW glebelaw06_cells.tab14 glebelaw06_cells.bits14 (fun HT_ HW_ => ?_)
                    generalize wr.drew = w55 at HO_14 BK220 BK221 BK222 BK227 BK228 HB hx240_0 hx240_1 hx241_0 hx241_1 hHeld ⊢
                    refine pure_ (i := 0) (N := some 86) (v := ?_) (a' := ?_) #[true, false, false, false, false, false, false, false, false, false, false, false, false, false, false, false] rfl rfl (any_of HT_.out (by kernel_rfl)) (fun _ _ _ h => h) (Or.inl ⟨by rfl, ?_⟩) ?_ ?_
                    rotate_left
                    ·intro w'
                     go_simp
                     with_reducible rfl
                    rotate_left
                    ·simp only [Act.put, List.setIfInBounds_toArray, List.set_cons_zero, List.set_cons_succ, i64_w, i32_w]
                     rfl
                    refine pure_ (i := 1) (N := some 87) (v := ?_) (a' := ?_) #[true, true, false, false, false, false, false, false, false, false, false, false, false, false, false, false] rfl rfl (any_of HT_.out (by kernel_rfl)) (fun _ _ _ h => h) (Or.inl ⟨by rfl, ?_⟩) ?_ ?_
                    rotate_left
                    ·intro w'
                     go_simp
                     with_reducible rfl
                    rotate_left
                    ·simp only [Act.put, List.setIfInBounds_toArray, List.set_cons_zero, List.set_cons_succ, i64_w, i32_w]
                     rfl
                    refine pure_ (i := 2) (N := some 88) (v := ?_) (a' := ?_) #[true, true, true, false, false, false, false, false, false, false, false, false, false, false, false, false] rfl rfl (any_of HT_.out (by kernel_rfl)) (fun _ _ _ h => h) (Or.inl ⟨by rfl, ?_⟩) ?_ ?_
                    rotate_left
                    ·intro w'
                     go_simp
                     with_reducible rfl
                    rotate_left
                    ·simp only [Act.put, List.setIfInBounds_toArray, List.set_cons_zero, List.set_cons_succ, i64_w, i32_w]
                     rfl
                    refine pure_ (i := 3) (N := some 89) (v := ?_) (a' := ?_) #[true, true, true, true, false, false, false, false, false, false, false, false, false, false, false, false] rfl rfl (any_of HT_.out (by kernel_rfl)) (fun _ _ _ h => h) (Or.inl ⟨by rfl, ?_⟩) ?_ ?_
                    rotate_left
                    ·intro w'
                     go_simp
                     with_reducible rfl
                    rotate_left
                    ·simp only [Act.put, List.setIfInBounds_toArray, List.set_cons_zero, List.set_cons_succ, i64_w, i32_w]
                     rfl
                    refine pure_ (i := 4) (N := some 90) (v := ?_) (a' := ?_) #[true, true, true, true, true, false, false, false, false, false, false, false, false, false, false, false] rfl rfl (any_of HT_.out (by kernel_rfl)) (fun _ _ _ h => h) (Or.inl ⟨by rfl, ?_⟩) ?_ ?_
                    rotate_left
                    ·intro w'
                     go_simp
                     with_reducible rfl
                    rotate_left
                    ·simp only [Act.put, List.setIfInBounds_toArray, List.set_cons_zero, List.set_cons_succ, i64_w, i32_w]
                     rfl
                    refine pure_ (i := 5) (N := some 91) (v := ?_) (a' := ?_) #[true, true, true, true, true, true, false, false, false, false, false, false, false, false, false, false] rfl rfl (any_of HT_.out (by kernel_rfl)) (fun _ _ _ h => h) (Or.inl ⟨by rfl, ?_⟩) ?_ ?_
                    rotate_left
                    ·intro w'
                     go_simp
                     with_reducible rfl
                    rotate_left
                    ·simp only [Act.put, List.setIfInBounds_toArray, List.set_cons_zero, List.set_cons_succ, i64_w, i32_w]
                     rfl
                    refine pure_ (i := 6) (N := some 92) (v := ?_) (a' := ?_) #[true, true, true, true, true, true, true, false, false, false, false, false, false, false, false, false] rfl rfl (any_of HT_.out (by kernel_rfl)) (fun _ _ _ h => h) (Or.inl ⟨by rfl, ?_⟩) ?_ ?_
                    rotate_left
                    ·intro w'
                     go_simp
                     with_reducible rfl
                    rotate_left
                    ·simp only [Act.put, List.setIfInBounds_toArray, List.set_cons_zero, List.set_cons_succ, i64_w, i32_w]
                     rfl
                    refine pure_ (i := 8) (N := some 94) (v := ?_) (a' := ?_) #[true, true, true, true, true, true, true, false, true, false, false, false, false, false, false, false] rfl rfl (any_of HT_.out (by kernel_rfl)) (fun _ _ _ h => h) (Or.inl ⟨by rfl, ?_⟩) ?_ ?_
                    rotate_left
                    ·intro w'
                     go_simp
                     with_reducible rfl
                    rotate_left
                    ·simp only [Act.put, List.setIfInBounds_toArray, List.set_cons_zero, List.set_cons_succ, i64_w, i32_w]
                     rfl
                    refine pure_ (i := 9) (N := some 95) (v := ?_) (a' := ?_) #[true, true, true, true, true, true, true, false, true, true, false, false, false, false, false, false] rfl rfl (any_of HT_.out (by kernel_rfl)) (fun _ _ _ h => h) (Or.inl ⟨by rfl, ?_⟩) ?_ ?_
                    rotate_left
                    ·intro w'
                     go_simp
                     with_reducible rfl
                    rotate_left
                    ·simp only [Act.put, List.setIfInBounds_toArray, List.set_cons_zero, List.set_cons_succ, i64_w, i32_w]
                     rfl
                    refine pure_ (i := 10) (N := some 96) (v := ?_) (a' := ?_) #[true, true, true, true, true, true, true, false, true, true, true, false, false, false, false, false] rfl rfl (any_of HT_.out (by kernel_rfl)) (fun _ _ _ h => h) (Or.inl ⟨by rfl, ?_⟩) ?_ ?_
                    rotate_left
                    ·intro w'
                     go_simp
                     with_reducible rfl
                    rotate_left
                    ·simp only [Act.put, List.setIfInBounds_toArray, List.set_cons_zero, List.set_cons_succ, i64_w, i32_w]
                     rfl
                    refine pure_ (i := 11) (N := some 97) (v := ?_) (a' := ?_) #[true, true, true, true, true, true, true, false, true, true, true, true, false, false, false, false] rfl rfl (any_of HT_.out (by kernel_rfl)) (fun _ _ _ h => h) (Or.inl ⟨by rfl, ?_⟩) ?_ ?_
                    rotate_left
                    ·intro w'
                     go_simp
                     with_reducible rfl
                    rotate_left
                    ·simp only [Act.put, List.setIfInBounds_toArray, List.set_cons_zero, List.set_cons_succ, i64_w, i32_w]
                     rfl
                    refine take_ (i := 7) (N := some 93) (v := ?_) (a' := ?_) #[true, true, true, true, true, true, true, true, true, true, true, true, false, false, false, false] rfl rfl (take_ofW HT_.out HW_.out (by kernel_rfl)) (fun _ _ _ h => h) (Or.inl ⟨by rfl, ?_⟩) hHeld ?_ ?_
                    rotate_left
                    ·rintro w' ⟨s0, s1, s2, s3⟩
                     go_simp
                     with_reducible rfl
                    rotate_left
                    ·simp only [Act.put, List.setIfInBounds_toArray, List.set_cons_zero, List.set_cons_succ, i64_w, i32_w]
                     rfl
                    refine take_ (i := 12) (N := some 98) (v := ?_) (a' := ?_) #[true, true, true, true, true, true, true, true, true, true, true, true, true, false, false, false] rfl rfl (take_ofW HT_.out HW_.out (by kernel_rfl)) (fun _ _ _ h => h) (Or.inl ⟨by rfl, ?_⟩) hHeld ?_ ?_
                    rotate_left
                    ·rintro w' ⟨s0, s1, s2, s3⟩
                     go_simp
                     with_reducible rfl
                    rotate_left
                    ·simp only [Act.put, List.setIfInBounds_toArray, List.set_cons_zero, List.set_cons_succ, i64_w, i32_w]
                     rfl
                    refine pure_ (i := 13) (N := some 99) (v := ?_) (a' := ?_) #[true, true, true, true, true, true, true, true, true, true, true, true, true, true, false, false] rfl rfl (any_of HT_.out (by kernel_rfl)) (fun _ _ _ h => h) (Or.inl ⟨by rfl, ?_⟩) ?_ ?_
                    rotate_left
                    ·intro w'
                     go_simp
                     with_reducible rfl
                    rotate_left
                    ·simp only [Act.put, List.setIfInBounds_toArray, List.set_cons_zero, List.set_cons_succ, i64_w, i32_w]
                     rfl
                    refine pure_ (i := 14) (N := some 100) (v := ?_) (a' := ?_) #[true, true, true, true, true, true, true, true, true, true, true, true, true, true, true, false] rfl rfl (any_of HT_.out (by kernel_rfl)) (fun _ _ _ h => h) (Or.inl ⟨by rfl, ?_⟩) ?_ ?_
                    rotate_left
                    ·intro w'
                     go_simp
                     with_reducible rfl
                    rotate_left
                    ·simp only [Act.put, List.setIfInBounds_toArray, List.set_cons_zero, List.set_cons_succ, i64_w, i32_w]
                     rfl
                    refine pure_ (i := 15) (N := some 16) (v := ?_) (a' := ?_) #[true, true, true, true, true, true, true, true, true, true, true, true, true, true, true, true] rfl rfl (any_of HT_.out (by kernel_rfl)) (fun _ _ _ h => h) (Or.inl ⟨by rfl, ?_⟩) ?_ ?_
                    rotate_left
                    ·intro w'
                     go_simp
                     with_reducible rfl
                    rotate_left
                    ·simp only [Act.put, List.setIfInBounds_toArray, List.set_cons_zero, List.set_cons_succ, i64_w, i32_w]
                     rfl
                    refine done_ (done_of HT_.out (by kernel_rfl)) ?_
                    try go_wp2
                    go_meet
                    case rel => exact ⟨_, ((((rd_T25 y237 x15_5).f0) == ((rd_T25 y237 (ji52)).f0) && (((rd_T25 y237 x15_5).f1) == ((rd_T25 y237 (ji52)).f1)))), (by first | rfl | (simp; done) | (simp only [← hji52] <;> (first | rfl | simp)) | (simp [*]; done)), H', ⟨by have := HK1.out; have := HJ18.out; have := HK3.out; have := HJ21.out; have := HK5.out; first | omega | exact Nat.le_refl _⟩, ⟨by (with_reducible repeat (first | apply Kd.R_alloc | apply Kd.R_drewN | apply Kd.R_drew)); exact HO_14.out⟩, ⟨by (with_reducible repeat (first | refine blk_drewN ?_ _ | refine blk_drew ?_ | refine blk_alloc ?_ _)); exact BK220.out⟩, ⟨by (with_reducible repeat (first | refine blk_drewN ?_ _ | refine blk_drew ?_ | refine blk_alloc ?_ _)); exact BK221.out⟩, ⟨by (with_reducible repeat (first | refine blk_drewN ?_ _ | refine blk_drew ?_ | refine blk_alloc ?_ _)); exact BK222.out⟩, ⟨by (with_reducible repeat (first | refine blk_drewN ?_ _ | refine blk_drew ?_ | refine blk_alloc ?_ _)); exact BK227.out⟩, ⟨by (with_reducible repeat (first | refine blk_drewN ?_ _ | refine blk_drew ?_ | refine blk_alloc ?_ _)); exact BK228.out⟩, ⟨by exact q3 HB.out GE220.out GE221.out GE222.out GE227.out GE228.out⟩⟩
                   ·rw [if_neg c54] at H
                    exact absurd H (by simp)
                  ·rw [if_neg c53] at H
                   exact absurd H (by simp)
                 ·rw [if_neg c51] at H
                  exact absurd H (by simp)
                ·rw [if_neg c50] at H
                 exact absurd H (by simp)
               ·rw [if_neg c49] at H
                have c49b0 : ((Int.tmod x15_5 2) == 1) = false := beq_eq_false_iff_ne.mpr c49
                have c49b1 : ((Int.tmod x15_5 2) != 1) = true := bne_iff_ne.mpr c49
                (first | rw [c49b0] | (simp only [i64_w, i32_w]; rw [c49b0]) | skip)
                have H' := Aside0.mk H
                clear H
                try go_wp2
                have n0_ := Aside0.mk (Kd.R_drew HO_14.out)
                have n1_ := Aside0.mk (blk_drew BK220.out)
                have n2_ := Aside0.mk (blk_drew BK221.out)
                have n3_ := Aside0.mk (blk_drew BK222.out)
                have n4_ := Aside0.mk (blk_drew BK227.out)
                have n5_ := Aside0.mk (blk_drew BK228.out)
                have n6_ := Aside0.mk (below_drew1 HB.out)
                clear HO_14
                clear BK220
                clear BK221
                clear BK222
                clear BK227
                clear BK228
                clear HB
                have HO_14 := n0_
                have BK220 := n1_
                have BK221 := n2_
                have BK222 := n3_
                have BK227 := n4_
                have BK228 := n5_
                have HB := n6_
                clear n0_ n1_ n2_ n3_ n4_ n5_ n6_
                refine start_ (n := 16) (S := fun w' => True) (ds := []) #[false, false, false, false, false, false, false, false, false, false, false, false, false, false, false, false] (by kernel_rfl) rfl rfl trivial (fun hHeld => ?_); refine with_tabW glebelaw06_cells.tab14 glebelaw06_cells.bits14 (fun HT_ HW_ => ?_)
                generalize wr.drew = w57 at HO_14 BK220 BK221 BK222 BK227 BK228 HB hHeld ⊢
                refine pure_ (i := 0) (N := some 86) (v := ?_) (a' := ?_) #[true, false, false, false, false, false, false, false, false, false, false, false, false, false, false, false] rfl rfl (any_of HT_.out (by kernel_rfl)) (fun _ _ _ h => h) (Or.inl ⟨by rfl, ?_⟩) ?_ ?_
                rotate_left
                ·intro w'
                 go_simp
                 with_reducible rfl
                rotate_left
                ·simp only [Act.put, List.setIfInBounds_toArray, List.set_cons_zero, List.set_cons_succ, i64_w, i32_w]
                 rfl
                refine pure_ (i := 1) (N := some 87) (v := ?_) (a' := ?_) #[true, true, false, false, false, false, false, false, false, false, false, false, false, false, false, false] rfl rfl (any_of HT_.out (by kernel_rfl)) (fun _ _ _ h => h) (Or.inl ⟨by rfl, ?_⟩) ?_ ?_
                rotate_left
                ·intro w'
                 go_simp
                 with_reducible rfl
                rotate_left
                ·simp only [Act.put, List.setIfInBounds_toArray, List.set_cons_zero, List.set_cons_succ, i64_w, i32_w]
                 rfl
                refine pure_ (i := 2) (N := some 88) (v := ?_) (a' := ?_) #[true, true, true, false, false, false, false, false, false, false, false, false, false, false, false, false] rfl rfl (any_of HT_.out (by kernel_rfl)) (fun _ _ _ h => h) (Or.inl ⟨by rfl, ?_⟩) ?_ ?_
                rotate_left
                ·intro w'
                 go_simp
                 with_reducible rfl
                rotate_left
                ·simp only [Act.put, List.setIfInBounds_toArray, List.set_cons_zero, List.set_cons_succ, i64_w, i32_w]
                 rfl
                refine pure_ (i := 3) (N := some 89) (v := ?_) (a' := ?_) #[true, true, true, true, false, false, false, false, false, false, false, false, false, false, false, false] rfl rfl (any_of HT_.out (by kernel_rfl)) (fun _ _ _ h => h) (Or.inl ⟨by rfl, ?_⟩) ?_ ?_
                rotate_left
                ·intro w'
                 go_simp
                 with_reducible rfl
                rotate_left
                ·simp only [Act.put, List.setIfInBounds_toArray, List.set_cons_zero, List.set_cons_succ, i64_w, i32_w]
                 rfl
                refine pure_ (i := 4) (N := some 90) (v := undef) (a' := ?_) #[true, true, true, true, true, false, false, false, false, false, false, false, false, false, false, false] rfl rfl (any_of HT_.out (by kernel_rfl)) (fun _ _ _ h => h) (Or.inr ⟨by rfl, rfl⟩) ?_ ?_
                rotate_left
                ·simp only [Act.put, List.setIfInBounds_toArray, List.set_cons_zero, List.set_cons_succ, i64_w, i32_w]
                 rfl
                refine pure_ (i := 5) (N := some 91) (v := undef) (a' := ?_) #[true, true, true, true, true, true, false, false, false, false, false, false, false, false, false, false] rfl rfl (any_of HT_.out (by kernel_rfl)) (fun _ _ _ h => h) (Or.inr ⟨by rfl, rfl⟩) ?_ ?_
                rotate_left
                ·simp only [Act.put, List.setIfInBounds_toArray, List.set_cons_zero, List.set_cons_succ, i64_w, i32_w]
                 rfl
                refine pure_ (i := 6) (N := some 92) (v := undef) (a' := ?_) #[true, true, true, true, true, true, true, false, false, false, false, false, false, false, false, false] rfl rfl (any_of HT_.out (by kernel_rfl)) (fun _ _ _ h => h) (Or.inr ⟨by rfl, rfl⟩) ?_ ?_
                rotate_left
                ·simp only [Act.put, List.setIfInBounds_toArray, List.set_cons_zero, List.set_cons_succ, i64_w, i32_w]
                 rfl
                refine pure_ (i := 7) (N := some 93) (v := undef) (a' := ?_) #[true, true, true, true, true, true, true, true, false, false, false, false, false, false, false, false] rfl rfl (any_of HT_.out (by kernel_rfl)) (fun _ _ _ h => h) (Or.inr ⟨by rfl, rfl⟩) ?_ ?_
                rotate_left
                ·simp only [Act.put, List.setIfInBounds_toArray, List.set_cons_zero, List.set_cons_succ, i64_w, i32_w]
                 rfl
                refine pure_ (i := 8) (N := some 94) (v := undef) (a' := ?_) #[true, true, true, true, true, true, true, true, true, false, false, false, false, false, false, false] rfl rfl (any_of HT_.out (by kernel_rfl)) (fun _ _ _ h => h) (Or.inr ⟨by rfl, rfl⟩) ?_ ?_
                rotate_left
                ·simp only [Act.put, List.setIfInBounds_toArray, List.set_cons_zero, List.set_cons_succ, i64_w, i32_w]
                 rfl
                refine pure_ (i := 9) (N := some 95) (v := undef) (a' := ?_) #[true, true, true, true, true, true, true, true, true, true, false, false, false, false, false, false] rfl rfl (any_of HT_.out (by kernel_rfl)) (fun _ _ _ h => h) (Or.inr ⟨by rfl, rfl⟩) ?_ ?_
                rotate_left
                ·simp only [Act.put, List.setIfInBounds_toArray, List.set_cons_zero, List.set_cons_succ, i64_w, i32_w]
                 rfl
                refine pure_ (i := 10) (N := some 96) (v := undef) (a' := ?_) #[true, true, true, true, true, true, true, true, true, true, true, false, false, false, false, false] rfl rfl (any_of HT_.out (by kernel_rfl)) (fun _ _ _ h => h) (Or.inr ⟨by rfl, rfl⟩) ?_ ?_
                rotate_left
                ·simp only [Act.put, List.setIfInBounds_toArray, List.set_cons_zero, List.set_cons_succ, i64_w, i32_w]
                 rfl
                refine pure_ (i := 11) (N := some 97) (v := undef) (a' := ?_) #[true, true, true, true, true, true, true, true, true, true, true, true, false, false, false, false] rfl rfl (any_of HT_.out (by kernel_rfl)) (fun _ _ _ h => h) (Or.inr ⟨by rfl, rfl⟩) ?_ ?_
                rotate_left
                ·simp only [Act.put, List.setIfInBounds_toArray, List.set_cons_zero, List.set_cons_succ, i64_w, i32_w]
                 rfl
                refine pure_ (i := 12) (N := some 98) (v := undef) (a' := ?_) #[true, true, true, true, true, true, true, true, true, true, true, true, true, false, false, false] rfl rfl (any_of HT_.out (by kernel_rfl)) (fun _ _ _ h => h) (Or.inr ⟨by rfl, rfl⟩) ?_ ?_
                rotate_left
                ·simp only [Act.put, List.setIfInBounds_toArray, List.set_cons_zero, List.set_cons_succ, i64_w, i32_w]
                 rfl
                refine pure_ (i := 13) (N := some 99) (v := undef) (a' := ?_) #[true, true, true, true, true, true, true, true, true, true, true, true, true, true, false, false] rfl rfl (any_of HT_.out (by kernel_rfl)) (fun _ _ _ h => h) (Or.inr ⟨by rfl, rfl⟩) ?_ ?_
                rotate_left
                ·simp only [Act.put, List.setIfInBounds_toArray, List.set_cons_zero, List.set_cons_succ, i64_w, i32_w]
                 rfl
                refine pure_ (i := 14) (N := some 100) (v := ?_) (a' := ?_) #[true, true, true, true, true, true, true, true, true, true, true, true, true, true, true, false] rfl rfl (any_of HT_.out (by kernel_rfl)) (fun _ _ _ h => h) (Or.inl ⟨by rfl, ?_⟩) ?_ ?_
                rotate_left
                ·intro w'
                 go_simp
                 with_reducible rfl
                rotate_left
                ·simp only [Act.put, List.setIfInBounds_toArray, List.set_cons_zero, List.set_cons_succ, i64_w, i32_w]
                 rfl
                refine pure_ (i := 15) (N := some 16) (v := ?_) (a' := ?_) #[true, true, true, true, true, true, true, true, true, true, true, true, true, true, true, true] rfl rfl (any_of HT_.out (by kernel_rfl)) (fun _ _ _ h => h) (Or.inl ⟨by rfl, ?_⟩) ?_ ?_
                rotate_left
                ·intro w'
                 go_simp
                 with_reducible rfl
                rotate_left
                ·simp only [Act.put, List.setIfInBounds_toArray, List.set_cons_zero, List.set_cons_succ, i64_w, i32_w]
                 rfl
                refine done_ (done_of HT_.out (by kernel_rfl)) ?_
                try go_wp2
                go_meet
                case rel => exact ⟨_, (false), (by first | rfl | (simp; done) | (simp [*]; done)), H', ⟨by have := HK1.out; have := HJ18.out; have := HK3.out; have := HJ21.out; have := HK5.out; first | omega | exact Nat.le_refl _⟩, ⟨by (with_reducible repeat (first | apply Kd.R_alloc | apply Kd.R_drewN | apply Kd.R_drew)); exact HO_14.out⟩, ⟨by (with_reducible repeat (first | refine blk_drewN ?_ _ | refine blk_drew ?_ | refine blk_alloc ?_ _)); exact BK220.out⟩, ⟨by (with_reducible repeat (first | refine blk_drewN ?_ _ | refine blk_drew ?_ | refine blk_alloc ?_ _)); exact BK221.out⟩, ⟨by (with_reducible repeat (first | refine blk_drewN ?_ _ | refine blk_drew ?_ | refine blk_alloc ?_ _)); exact BK222.out⟩, ⟨by (with_reducible repeat (first | refine blk_drewN ?_ _ | refine blk_drew ?_ | refine blk_alloc ?_ _)); exact BK227.out⟩, ⟨by (with_reducible repeat (first | refine blk_drewN ?_ _ | refine blk_drew ?_ | refine blk_alloc ?_ _)); exact BK228.out⟩, ⟨by exact q3 HB.out GE220.out GE221.out GE222.out GE227.out GE228.out⟩⟩
              case rest =>
               clear HC48
               try clear c1
               try clear c2
               try clear p2
               try clear q2
               try clear hx2
               try clear c3
               try clear c4
               try clear c5
               try clear c6
               try clear p6
               try clear c8
               try clear c9
               try clear c11
               try clear c15
               try clear c16
               try clear c17
               try clear c20
               try clear c20b0
               try clear c21
               try clear c23
               try clear c23b0
               try clear c24
               try clear p24
               try clear q24
               try clear hx24
               try clear c29
               try clear c30
               try clear c31
               try clear c34
               try clear c35
               try clear c36
               try clear c37
               try clear c47
               try clear c47b0
               try clear c49
               try clear c49b0
               try clear c49b1
               try clear c50
               try clear c50b0
               try clear c51
               try clear c51b0
               try clear c53
               try clear c53b0
               try clear c54
               try clear c54b0
               try clear c57
               try clear hcz10_0
               try clear hcz12_0
               try clear hcz12_1
               try clear hcz18_0
               try clear hcz18_1
               try clear hcz32_0
               try clear hcz32_1
               try clear hcz38_0
               try clear hcz38_1
               try clear hfz10_0
               try clear hfz12_0
               try clear hfz12_1
               try clear hfz18_0
               try clear hfz18_1
               try clear hfz32_0
               try clear hfz32_1
               try clear hfz38_0
               try clear hfz38_1
               try clear hx240_0
               try clear hx240_1
               try clear hx241_0
               try clear hx241_1
               try clear p2
               try clear p240
               try clear p241
               try clear p6
               try clear q240
               try clear q241
               obtain ⟨kq, x16_47, rfl, HA, HJ47, HO_14, BK220, BK221, BK222, BK227, BK228, HB⟩ := hcut
               cases kq with
               | zero => exact absurd HA.out (by simp [glebelaw06_cells.j5])
               | succ kj47 =>
                have H := HA.out
                clear HA
                simp only [glebelaw06_cells.j5] at H
                by_cases c58 : 0 ≤ x15_5
                ·rw [if_pos c58] at H
                 have c58b0 : decide (0 ≤ x15_5) = true := decide_eq_true c58
                 clear c58
                 by_cases c59 : x15_5 < (y237.length : Int)
                 ·rw [if_pos c59] at H
                  have c59b0 : decide (x15_5 < (y237.length : Int)) = true := decide_eq_true c59
                  clear c59
                  replace H := Option.bind_eq_some_iff.mp H
                  obtain ⟨⟨t243, t244, t245⟩, A600, H⟩ := H
                  try dsimp only at H
                  have A60 := Aside0.mk A600
                  clear A600
                  replace H := Option.bind_eq_some_iff.mp H
                  obtain ⟨t247, A610, H⟩ := H
                  try dsimp only at H
                  have A61 := Aside0.mk A610
                  clear A610
                  by_cases c62 : t247 = 0
                  ·rw [if_pos c62] at H
                   have c62b0 : (t247 == 0) = true := beq_iff_eq.mpr c62
                   have c62b1 : (t247 != 0) = false := bne_eq_false_iff_eq.mpr c62
                   clear c62
                   by_cases c63 : (t243 == a2_0 && (t244 == a2_1)) = true
                   ·rw [if_pos c63] at H
                    have c63b0 : (t243 == a2_0 && (t244 == a2_1)) = true := c63
                    (try (have c63b1 : decide (t243 = a2_0 && (t244 == a2_1)) = true := by simpa using c63))
                    (try (have c63b2 : (t243 == a2_0 && (t244 == a2_1)) = true := by simpa using c63))
                    clear c63
                    by_cases c64 : x16_47 = true
                    ·subst c64
                     have H1 : (glebelaw06_cells.l2 kj47 t225 t226 x10_5 x11_1 x12_3 y237 (wrap64 (x15_5 + 1)) a0_0 a2_0 a2_1 t223 t224) = some r := by rw [if_pos rfl] at H; exact H
                     clear H
                     have H := H1
                     clear H1
                     have H' := Aside0.mk H
                     clear H
                     try go_wp2
                     have n0_ := Aside0.mk (Kd.R_drew HO_14.out)
                     have n1_ := Aside0.mk (blk_drew BK220.out)
                     have n2_ := Aside0.mk (blk_drew BK221.out)
                     have n3_ := Aside0.mk (blk_drew BK222.out)
                     have n4_ := Aside0.mk (blk_drew BK227.out)
                     have n5_ := Aside0.mk (blk_drew BK228.out)
                     have n6_ := Aside0.mk (below_drew1 HB.out)
                     clear HO_14
                     clear BK220
                     clear BK221
                     clear BK222
                     clear BK227
                     clear BK228
                     clear HB
                     have HO_14 := n0_
                     have BK220 := n1_
                     have BK221 := n2_
                     have BK222 := n3_
                     have BK227 := n4_
                     have BK228 := n5_
                     have HB := n6_
                     clear n0_ n1_ n2_ n3_ n4_ n5_ n6_
                     obtain ⟨Ao66, co66, eo66⟩ := Kd.R_slice HO_14.out
                     (first | subst eo66 | (injection eo66 with f1_ f2_ f3_; have f4_ := f1_.symm; have f5_ := f3_.symm; clear f1_ f2_ f3_; subst f4_; subst f5_))
                     have p242 : 0 ≤ (x15_5 : Int) := of_decide_eq_true (by first | (with_reducible assumption) | assumption)
                     have q242 : x15_5 < (y237.length : Int) := of_decide_eq_true (by first | (with_reducible assumption) | assumption)
                     obtain ⟨ad242, e242, hx242_0, hx242_1⟩ := at_T25 (Kd.R_reads' HO_14.out).2.2 x15_5 p242 q242
                     cases e242
                     replace p242 := eq_true p242
                     replace q242 := eq_true q242
                     refine start_ (n := 14) (S := fun w' => w'.cell? ⟨gb220, 0, none⟩ = some (.int .i64 a0_0) ∧ w'.cell? ⟨gb222, 0, none⟩ = some (.int .i64 a2_0) ∧ w'.cell? ⟨gb222, 1, none⟩ = some (.int .i64 a2_1) ∧ w'.cell? (ad242.add ((x15_5).toNat * 2)) = some (.int .i64 ((rd_T25 y237 x15_5).f0)) ∧ w'.cell? ⟨(ad242.add ((x15_5).toNat * 2)).block, (ad242.add ((x15_5).toNat * 2)).off + 1, none⟩ = some (.int .i64 ((rd_T25 y237 x15_5).f1))) (ds := []) #[false, false, false, false, false, false, false, false, false, false, false, false, false, false] (by kernel_rfl) rfl rfl ⟨bc BK220 0, bc BK222 0, bc BK222 1, hx242_0, hx242_1⟩ (fun hHeld => ?_); refine with_tabW glebelaw06_cells.tab15 glebelaw06_cells.bits15 (fun HT_ HW_ => ?_)
                     generalize wc.drew = w65 at HO_14 BK220 BK221 BK222 BK227 BK228 HB hx242_0 hx242_1 hHeld ⊢
                     refine pure_ (i := 1) (N := some 103) (v := ?_) (a' := ?_) #[false, true, false, false, false, false, false, false, false, false, false, false, false, false] rfl rfl (any_of HT_.out (by kernel_rfl)) (fun _ _ _ h => h) (Or.inl ⟨by rfl, ?_⟩) ?_ ?_
                     rotate_left
                     ·intro w'
                      go_simp
                      with_reducible rfl
                     rotate_left
                     ·simp only [Act.put, List.setIfInBounds_toArray, List.set_cons_zero, List.set_cons_succ, i64_w, i32_w]
                      rfl
                     refine pure_ (i := 2) (N := some 104) (v := ?_) (a' := ?_) #[false, true, true, false, false, false, false, false, false, false, false, false, false, false] rfl rfl (any_of HT_.out (by kernel_rfl)) (fun _ _ _ h => h) (Or.inl ⟨by rfl, ?_⟩) ?_ ?_
                     rotate_left
                     ·intro w'
                      go_simp
                      with_reducible rfl
                     rotate_left
                     ·simp only [Act.put, List.setIfInBounds_toArray, List.set_cons_zero, List.set_cons_succ, i64_w, i32_w]
                      rfl
                     refine pure_ (i := 3) (N := some 105) (v := ?_) (a' := ?_) #[false, true, true, true, false, false, false, false, false, false, false, false, false, false] rfl rfl (any_of HT_.out (by kernel_rfl)) (fun _ _ _ h => h) (Or.inl ⟨by rfl, ?_⟩) ?_ ?_
                     rotate_left
                     ·intro w'
                      go_simp
                      with_reducible rfl
                     rotate_left
                     ·simp only [Act.put, List.setIfInBounds_toArray, List.set_cons_zero, List.set_cons_succ, i64_w, i32_w]
                      rfl
                     refine pure_ (i := 5) (N := some 107) (v := ?_) (a' := ?_) #[false, true, true, true, false, true, false, false, false, false, false, false, false, false] rfl rfl (any_of HT_.out (by kernel_rfl)) (fun _ _ _ h => h) (Or.inl ⟨by rfl, ?_⟩) ?_ ?_
                     rotate_left
                     ·intro w'
                      go_simp
                      with_reducible rfl
                     rotate_left
                     ·simp only [Act.put, List.setIfInBounds_toArray, List.set_cons_zero, List.set_cons_succ, i64_w, i32_w]
                      rfl
                     refine take_ (i := 0) (N := some 102) (v := ?_) (a' := ?_) #[true, true, true, true, false, true, false, false, false, false, false, false, false, false] rfl rfl (take_ofW HT_.out HW_.out (by kernel_rfl)) (fun _ _ _ h => h) (Or.inl ⟨by rfl, ?_⟩) hHeld ?_ ?_
                     rotate_left
                     ·rintro w' ⟨s0, s1, s2, s3, s4⟩
                      go_simp
                      with_reducible rfl
                     rotate_left
                     ·simp only [Act.put, List.setIfInBounds_toArray, List.set_cons_zero, List.set_cons_succ, i64_w, i32_w]
                      rfl
                     refine take_ (i := 4) (N := some 106) (v := ?_) (a' := ?_) #[true, true, true, true, true, true, false, false, false, false, false, false, false, false] rfl rfl (take_ofW HT_.out HW_.out (by kernel_rfl)) (fun _ _ _ h => h) (Or.inl ⟨by rfl, ?_⟩) hHeld ?_ ?_
                     rotate_left
                     ·rintro w' ⟨s0, s1, s2, s3, s4⟩
                      go_simp
                      with_reducible rfl
                     rotate_left
                     ·simp only [Act.put, List.setIfInBounds_toArray, List.set_cons_zero, List.set_cons_succ, i64_w, i32_w]
                      rfl
                     refine take_ (i := 6) (N := some 108) (v := ?_) (a' := ?_) #[true, true, true, true, true, true, true, false, false, false, false, false, false, false] rfl rfl (take_ofW HT_.out HW_.out (by kernel_rfl)) (fun _ _ _ h => h) (Or.inl ⟨by rfl, ?_⟩) hHeld ?_ ?_
                     rotate_left
                     ·rintro w' ⟨s0, s1, s2, s3, s4⟩
                      go_simp
                      with_reducible rfl
                     rotate_left
                     ·simp only [Act.put, List.setIfInBounds_toArray, List.set_cons_zero, List.set_cons_succ, i64_w, i32_w]
                      rfl
                     refine join_ (σ := Nat) 2 #[true, true, true, true, true, true, true, true, true, true, true, true, false, false] (fun s_ => [(109, .tuple #[.agg #[.int .i64 t243, .int .i64 t244], .int .i64 t245]), (17, .pointer (some ⟨s_, 0, none⟩)), (101, .tuple #[.agg #[.int .i64 t243, .int .i64 t244], .int .i64 t245]), (110, .agg #[.int .i64 t243, .int .i64 t244]), (111, .int .i64 t245)]) (fun s_ w' => (w'.cell? ⟨gb220, 0, none⟩ = some (.int .i64 a0_0) ∧ w'.cell? ⟨gb222, 0, none⟩ = some (.int .i64 a2_0) ∧ w'.cell? ⟨gb222, 1, none⟩ = some (.int .i64 a2_1) ∧ w'.cell? (ad242.add ((x15_5).toNat * 2)) = some (.int .i64 ((rd_T25 y237 x15_5).f0)) ∧ w'.cell? ⟨(ad242.add ((x15_5).toNat * 2)).block, (ad242.add ((x15_5).toNat * 2)).off + 1, none⟩ = some (.int .i64 ((rd_T25 y237 x15_5).f1))) ∧ (Kd.R k25 25 w' w.heap.size (fun k_ => k_ ≠ gb227 ∧ k_ ≠ gb228) (.slice (some ad242) y237.length co66) y237) ∧ (w'.heap[gb220]? = some (.cells #[.int .i64 a0_0] 27 (0, 0))) ∧ (w'.heap[gb221]? = some (.cells #[.int .i64 a1_0, .int .i64 a1_1] 23 (0, 0))) ∧ (w'.heap[gb222]? = some (.cells #[.int .i64 a2_0, .int .i64 a2_1] 23 (0, 0))) ∧ (w'.heap[gb227]? = some (.cells #[.int .i64 t223, .int .i64 t224] 25 (0, 0))) ∧ (w'.heap[gb228]? = some (.cells #[.int .i64 (wrap64 (t223 + x11_1)), .int .i64 (wrap64 (t224 + x12_3))] 25 (0, 0))) ∧ (w'.heap[s_]? = some (.cells #[.int .i64 0, .int .i64 0] 23 (0, 0))) ∧ (w.heap.size ≤ s_) ∧ (w.heap.size ≤ s_) ∧ (gb220 ≠ s_) ∧ (s_ ≠ gb220) ∧ (gb221 ≠ s_) ∧ (s_ ≠ gb221) ∧ (gb222 ≠ s_) ∧ (s_ ≠ gb222) ∧ (gb227 ≠ s_) ∧ (s_ ≠ gb227) ∧ (gb228 ≠ s_) ∧ (s_ ≠ gb228) ∧ (Below w.heap.size w w')) ?_ ?_
                     rotate_left
                     ·intro hCont
                      refine two_ (i := 7) (j := 11) (Ni := some 109) (Nj := some 17) #[true, true, true, true, true, true, true, true, false, false, false, false, false, false] #[true, true, true, true, true, true, true, false, false, false, false, true, false, false] rfl rfl rfl rfl (two_of HT_.out (by kernel_rfl)) (by decide) (by decide) (fun K hK => ?_) (fun K hK => ?_)
                      ·skip
                       refine goes_ Try.func59 (by kernel_rfl) rfl #[.agg #[.int .i64 a0_0], .agg #[.int .i64 ((rd_T25 y237 x15_5).f0), .int .i64 ((rd_T25 y237 x15_5).f1)], .int .i64 a2_0] (by rfl) rfl rfl (by (try simp only [List.map_toArray, List.map_cons, List.map_nil]); first | done | rfl | (simp only [List.length_drop, List.length_take]; rfl)) ?_
                       with_reducible refine (path_At.calls kj47 a0_0 ((rd_T25 y237 x15_5).f0) ((rd_T25 y237 x15_5).f1) a2_0 t243 t244 t245 _ A60.out).mono ?_
                       rintro e w67 ⟨rfl, hb⟩
                       have HS3_ := (hb.cell (World.block_lt_of_cell? _ _ (hHeld.2.2.2.1))).trans (hHeld.2.2.2.1)
                       have HS4_ := (hb.cell (World.block_lt_of_cell? _ _ (hHeld.2.2.2.2))).trans (hHeld.2.2.2.2)
                       refine ⟨_, rfl, ?_⟩
                       have n0_ := Aside0.mk (Kd.R_below (br HO_14.out) hb)
                       have n1_ := Aside0.mk (blk_below (bk BK220.out) hb)
                       have n2_ := Aside0.mk (blk_below (bk BK221.out) hb)
                       have n3_ := Aside0.mk (blk_below (bk BK222.out) hb)
                       have n4_ := Aside0.mk (blk_below (bk BK227.out) hb)
                       have n5_ := Aside0.mk (blk_below (bk BK228.out) hb)
                       have n6_ := Aside0.mk (below_step (q3 HB.out GE220.out GE221.out GE222.out GE227.out GE228.out) hb)
                       clear HO_14
                       clear BK220
                       clear BK221
                       clear BK222
                       clear BK227
                       clear BK228
                       clear HB
                       have HO_14 := n0_
                       have BK220 := n1_
                       have BK221 := n2_
                       have BK222 := n3_
                       have BK227 := n4_
                       have BK228 := n5_
                       have HB := n6_
                       clear n0_ n1_ n2_ n3_ n4_ n5_ n6_
                       (try clear hb)
                       (try clear hb2)
                       (try clear hk)
                       (try clear hi)
                       refine hK.out _ _ ⟨bc BK220 0, bc BK222 0, bc BK222 1, HS3_, HS4_⟩ (fun hHeld => ?_)
                       clear hK K
                       refine norm_ (a' := ?_) ?_ ?_
                       rotate_left
                       ·show Act.put _ (some 109) _ = _
                        simp only [Act.put, List.setIfInBounds_toArray, List.set_cons_zero, List.set_cons_succ, i64_w, i32_w]
                        rfl
                       refine pure_ (i := 8) (N := some 101) (v := ?_) (a' := ?_) #[true, true, true, true, true, true, true, true, true, false, false, false, false, false] rfl rfl (any_of HT_.out (by kernel_rfl)) (fun _ _ _ h => h) (Or.inl ⟨by rfl, ?_⟩) ?_ ?_
                       rotate_left
                       ·intro w'
                        go_simp
                        with_reducible rfl
                       rotate_left
                       ·simp only [Act.put, List.setIfInBounds_toArray, List.set_cons_zero, List.set_cons_succ, i64_w, i32_w]
                        rfl
                       refine pure_ (i := 9) (N := some 110) (v := ?_) (a' := ?_) #[true, true, true, true, true, true, true, true, true, true, false, false, false, false] rfl rfl (any_of HT_.out (by kernel_rfl)) (fun _ _ _ h => h) (Or.inl ⟨by rfl, ?_⟩) ?_ ?_
                       rotate_left
                       ·intro w'
                        go_simp
                        with_reducible rfl
                       rotate_left
                       ·simp only [Act.put, List.setIfInBounds_toArray, List.set_cons_zero, List.set_cons_succ, i64_w, i32_w]
                        rfl
                       refine pure_ (i := 10) (N := some 111) (v := ?_) (a' := ?_) #[true, true, true, true, true, true, true, true, true, true, true, false, false, false] rfl rfl (any_of HT_.out (by kernel_rfl)) (fun _ _ _ h => h) (Or.inl ⟨by rfl, ?_⟩) ?_ ?_
                       rotate_left
                       ·intro w'
                        go_simp
                        with_reducible rfl
                       rotate_left
                       ·simp only [Act.put, List.setIfInBounds_toArray, List.set_cons_zero, List.set_cons_succ, i64_w, i32_w]
                        rfl
                       refine one_ (i := 11) (N := some 17) #[true, true, true, true, true, true, true, true, true, true, true, true, false, false] rfl rfl (one_of HT_.out (by kernel_rfl)) (by decide) (fun K hK => ?_)
                       refine box_step ?hg (N := 17) ?hd (cs := #[.int .i64 0, .int .i64 0]) (t := 23) ?hr ?_; (case hd => rfl); (case hg => rfl); (case hr => first | (go_simp; done) | (go_simp; rfl))
                       intro gb246 hg w68 hbox hb
                       have HS3_ := (hb.cell (World.block_lt_of_cell? _ _ (hHeld.2.2.2.1))).trans (hHeld.2.2.2.1)
                       have HS4_ := (hb.cell (World.block_lt_of_cell? _ _ (hHeld.2.2.2.2))).trans (hHeld.2.2.2.2)
                       have n0_ := Aside0.mk (Kd.R_below (br HO_14.out) hb)
                       have n1_ := Aside0.mk (blk_below (bk BK220.out) hb)
                       have n2_ := Aside0.mk (blk_below (bk BK221.out) hb)
                       have n3_ := Aside0.mk (blk_below (bk BK222.out) hb)
                       have n4_ := Aside0.mk (blk_below (bk BK227.out) hb)
                       have n5_ := Aside0.mk (blk_below (bk BK228.out) hb)
                       have n6_ := Aside0.mk (below_step (q3 HB.out GE220.out GE221.out GE222.out GE227.out GE228.out) hb)
                       have n7_ := Aside0.mk (hbox)
                       have n8_ := Aside0.mk ((by rw [hg]; exact (below_size (q3 HB.out GE220.out GE221.out GE222.out GE227.out GE228.out)) : w.heap.size ≤ gb246))
                       have n9_ := Aside0.mk ((by rw [hg]; exact (below_size (q3 HB.out GE220.out GE221.out GE222.out GE227.out GE228.out)) : w.heap.size ≤ gb246))
                       have n10_ := Aside0.mk ((by rw [hg]; exact Nat.ne_of_lt (blk_lt (g := gb220) (o := .cells #[.int .i64 a0_0] 27 (0, 0)) (bk BK220.out)) : gb220 ≠ gb246))
                       have n11_ := Aside0.mk ((by rw [hg]; exact Nat.ne_of_gt (blk_lt (g := gb220) (o := .cells #[.int .i64 a0_0] 27 (0, 0)) (bk BK220.out)) : gb246 ≠ gb220))
                       have n12_ := Aside0.mk ((by rw [hg]; exact Nat.ne_of_lt (blk_lt (g := gb221) (o := .cells #[.int .i64 a1_0, .int .i64 a1_1] 23 (0, 0)) (bk BK221.out)) : gb221 ≠ gb246))
                       have n13_ := Aside0.mk ((by rw [hg]; exact Nat.ne_of_gt (blk_lt (g := gb221) (o := .cells #[.int .i64 a1_0, .int .i64 a1_1] 23 (0, 0)) (bk BK221.out)) : gb246 ≠ gb221))
                       have n14_ := Aside0.mk ((by rw [hg]; exact Nat.ne_of_lt (blk_lt (g := gb222) (o := .cells #[.int .i64 a2_0, .int .i64 a2_1] 23 (0, 0)) (bk BK222.out)) : gb222 ≠ gb246))
                       have n15_ := Aside0.mk ((by rw [hg]; exact Nat.ne_of_gt (blk_lt (g := gb222) (o := .cells #[.int .i64 a2_0, .int .i64 a2_1] 23 (0, 0)) (bk BK222.out)) : gb246 ≠ gb222))
                       have n16_ := Aside0.mk ((by rw [hg]; exact Nat.ne_of_lt (blk_lt (g := gb227) (o := .cells #[.int .i64 t223, .int .i64 t224] 25 (0, 0)) (bk BK227.out)) : gb227 ≠ gb246))
                       have n17_ := Aside0.mk ((by rw [hg]; exact Nat.ne_of_gt (blk_lt (g := gb227) (o := .cells #[.int .i64 t223, .int .i64 t224] 25 (0, 0)) (bk BK227.out)) : gb246 ≠ gb227))
                       have n18_ := Aside0.mk ((by rw [hg]; exact Nat.ne_of_lt (blk_lt (g := gb228) (o := .cells #[.int .i64 (wrap64 (t223 + x11_1)), .int .i64 (wrap64 (t224 + x12_3))] 25 (0, 0)) (bk BK228.out)) : gb228 ≠ gb246))
                       have n19_ := Aside0.mk ((by rw [hg]; exact Nat.ne_of_gt (blk_lt (g := gb228) (o := .cells #[.int .i64 (wrap64 (t223 + x11_1)), .int .i64 (wrap64 (t224 + x12_3))] 25 (0, 0)) (bk BK228.out)) : gb246 ≠ gb228))
                       clear HO_14
                       clear BK220
                       clear BK221
                       clear BK222
                       clear BK227
                       clear BK228
                       clear HB
                       have HO_14 := n0_
                       have BK220 := n1_
                       have BK221 := n2_
                       have BK222 := n3_
                       have BK227 := n4_
                       have BK228 := n5_
                       have HB := n6_
                       have BK246 := n7_
                       have GW246 := n8_
                       have GE246 := n9_
                       have NB220_246 := n10_
                       have NB246_220 := n11_
                       have NB221_246 := n12_
                       have NB246_221 := n13_
                       have NB222_246 := n14_
                       have NB246_222 := n15_
                       have NB227_246 := n16_
                       have NB246_227 := n17_
                       have NB228_246 := n18_
                       have NB246_228 := n19_
                       clear n0_ n1_ n2_ n3_ n4_ n5_ n6_ n7_ n8_ n9_ n10_ n11_ n12_ n13_ n14_ n15_ n16_ n17_ n18_ n19_
                       clear hb hbox hg
                       refine hK.out _ _ ⟨bc BK220 0, bc BK222 0, bc BK222 1, HS3_, HS4_⟩ (fun hHeld => ?_)
                       clear hK K
                       refine norm_ (a' := ?_) ?_ ?_
                       rotate_left
                       ·show Act.put _ (some 17) _ = _
                        simp only [Act.put, List.setIfInBounds_toArray, List.set_cons_zero, List.set_cons_succ, i64_w, i32_w]
                        rfl
                       exact norm_ (by simp only [putAll, Act.put, List.setIfInBounds_toArray, List.set_cons_zero, List.set_cons_succ]) (hCont (gb246) _ ⟨hHeld, (br HO_14.out), (bk BK220.out), (bk BK221.out), (bk BK222.out), (bk BK227.out), (bk BK228.out), (bk BK246.out), GW246.out, GE246.out, NB220_246.out, NB246_220.out, NB221_246.out, NB246_221.out, NB222_246.out, NB246_222.out, NB227_246.out, NB246_227.out, NB228_246.out, NB246_228.out, (q4 HB.out GE220.out GE221.out GE222.out GE227.out GE228.out GE246.out)⟩)
                      ·skip
                       refine box_step ?hg (N := 17) ?hd (cs := #[.int .i64 0, .int .i64 0]) (t := 23) ?hr ?_; (case hd => rfl); (case hg => rfl); (case hr => first | (go_simp; done) | (go_simp; rfl))
                       intro gb246 hg w67 hbox hb
                       have HS3_ := (hb.cell (World.block_lt_of_cell? _ _ (hHeld.2.2.2.1))).trans (hHeld.2.2.2.1)
                       have HS4_ := (hb.cell (World.block_lt_of_cell? _ _ (hHeld.2.2.2.2))).trans (hHeld.2.2.2.2)
                       have n0_ := Aside0.mk (Kd.R_below (br HO_14.out) hb)
                       have n1_ := Aside0.mk (blk_below (bk BK220.out) hb)
                       have n2_ := Aside0.mk (blk_below (bk BK221.out) hb)
                       have n3_ := Aside0.mk (blk_below (bk BK222.out) hb)
                       have n4_ := Aside0.mk (blk_below (bk BK227.out) hb)
                       have n5_ := Aside0.mk (blk_below (bk BK228.out) hb)
                       have n6_ := Aside0.mk (below_step (q3 HB.out GE220.out GE221.out GE222.out GE227.out GE228.out) hb)
                       have n7_ := Aside0.mk (hbox)
                       have n8_ := Aside0.mk ((by rw [hg]; exact (below_size (q3 HB.out GE220.out GE221.out GE222.out GE227.out GE228.out)) : w.heap.size ≤ gb246))
                       have n9_ := Aside0.mk ((by rw [hg]; exact (below_size (q3 HB.out GE220.out GE221.out GE222.out GE227.out GE228.out)) : w.heap.size ≤ gb246))
                       have n10_ := Aside0.mk ((by rw [hg]; exact Nat.ne_of_lt (blk_lt (g := gb220) (o := .cells #[.int .i64 a0_0] 27 (0, 0)) (bk BK220.out)) : gb220 ≠ gb246))
                       have n11_ := Aside0.mk ((by rw [hg]; exact Nat.ne_of_gt (blk_lt (g := gb220) (o := .cells #[.int .i64 a0_0] 27 (0, 0)) (bk BK220.out)) : gb246 ≠ gb220))
                       have n12_ := Aside0.mk ((by rw [hg]; exact Nat.ne_of_lt (blk_lt (g := gb221) (o := .cells #[.int .i64 a1_0, .int .i64 a1_1] 23 (0, 0)) (bk BK221.out)) : gb221 ≠ gb246))
                       have n13_ := Aside0.mk ((by rw [hg]; exact Nat.ne_of_gt (blk_lt (g := gb221) (o := .cells #[.int .i64 a1_0, .int .i64 a1_1] 23 (0, 0)) (bk BK221.out)) : gb246 ≠ gb221))
                       have n14_ := Aside0.mk ((by rw [hg]; exact Nat.ne_of_lt (blk_lt (g := gb222) (o := .cells #[.int .i64 a2_0, .int .i64 a2_1] 23 (0, 0)) (bk BK222.out)) : gb222 ≠ gb246))
                       have n15_ := Aside0.mk ((by rw [hg]; exact Nat.ne_of_gt (blk_lt (g := gb222) (o := .cells #[.int .i64 a2_0, .int .i64 a2_1] 23 (0, 0)) (bk BK222.out)) : gb246 ≠ gb222))
                       have n16_ := Aside0.mk ((by rw [hg]; exact Nat.ne_of_lt (blk_lt (g := gb227) (o := .cells #[.int .i64 t223, .int .i64 t224] 25 (0, 0)) (bk BK227.out)) : gb227 ≠ gb246))
                       have n17_ := Aside0.mk ((by rw [hg]; exact Nat.ne_of_gt (blk_lt (g := gb227) (o := .cells #[.int .i64 t223, .int .i64 t224] 25 (0, 0)) (bk BK227.out)) : gb246 ≠ gb227))
                       have n18_ := Aside0.mk ((by rw [hg]; exact Nat.ne_of_lt (blk_lt (g := gb228) (o := .cells #[.int .i64 (wrap64 (t223 + x11_1)), .int .i64 (wrap64 (t224 + x12_3))] 25 (0, 0)) (bk BK228.out)) : gb228 ≠ gb246))
                       have n19_ := Aside0.mk ((by rw [hg]; exact Nat.ne_of_gt (blk_lt (g := gb228) (o := .cells #[.int .i64 (wrap64 (t223 + x11_1)), .int .i64 (wrap64 (t224 + x12_3))] 25 (0, 0)) (bk BK228.out)) : gb246 ≠ gb228))
                       clear HO_14
                       clear BK220
                       clear BK221
                       clear BK222
                       clear BK227
                       clear BK228
                       clear HB
                       have HO_14 := n0_
                       have BK220 := n1_
                       have BK221 := n2_
                       have BK222 := n3_
                       have BK227 := n4_
                       have BK228 := n5_
                       have HB := n6_
                       have BK246 := n7_
                       have GW246 := n8_
                       have GE246 := n9_
                       have NB220_246 := n10_
                       have NB246_220 := n11_
                       have NB221_246 := n12_
                       have NB246_221 := n13_
                       have NB222_246 := n14_
                       have NB246_222 := n15_
                       have NB227_246 := n16_
                       have NB246_227 := n17_
                       have NB228_246 := n18_
                       have NB246_228 := n19_
                       clear n0_ n1_ n2_ n3_ n4_ n5_ n6_ n7_ n8_ n9_ n10_ n11_ n12_ n13_ n14_ n15_ n16_ n17_ n18_ n19_
                       clear hb hbox hg
                       refine hK.out _ _ ⟨bc BK220 0, bc BK222 0, bc BK222 1, HS3_, HS4_⟩ (fun hHeld => ?_)
                       clear hK K
                       refine norm_ (a' := ?_) ?_ ?_
                       rotate_left
                       ·show Act.put _ (some 17) _ = _
                        simp only [Act.put, List.setIfInBounds_toArray, List.set_cons_zero, List.set_cons_succ, i64_w, i32_w]
                        rfl
                       refine one_ (i := 7) (N := some 109) #[true, true, true, true, true, true, true, true, false, false, false, true, false, false] rfl rfl (one_of HT_.out (by kernel_rfl)) (by decide) (fun K hK => ?_)
                       refine goes_ Try.func59 (by kernel_rfl) rfl #[.agg #[.int .i64 a0_0], .agg #[.int .i64 ((rd_T25 y237 x15_5).f0), .int .i64 ((rd_T25 y237 x15_5).f1)], .int .i64 a2_0] (by rfl) rfl rfl (by (try simp only [List.map_toArray, List.map_cons, List.map_nil]); first | done | rfl | (simp only [List.length_drop, List.length_take]; rfl)) ?_
                       with_reducible refine (path_At.calls kj47 a0_0 ((rd_T25 y237 x15_5).f0) ((rd_T25 y237 x15_5).f1) a2_0 t243 t244 t245 _ A60.out).mono ?_
                       rintro e w68 ⟨rfl, hb⟩
                       have HS3_ := (hb.cell (World.block_lt_of_cell? _ _ (hHeld.2.2.2.1))).trans (hHeld.2.2.2.1)
                       have HS4_ := (hb.cell (World.block_lt_of_cell? _ _ (hHeld.2.2.2.2))).trans (hHeld.2.2.2.2)
                       refine ⟨_, rfl, ?_⟩
                       have n0_ := Aside0.mk (Kd.R_below (br HO_14.out) hb)
                       have n1_ := Aside0.mk (blk_below (bk BK220.out) hb)
                       have n2_ := Aside0.mk (blk_below (bk BK221.out) hb)
                       have n3_ := Aside0.mk (blk_below (bk BK222.out) hb)
                       have n4_ := Aside0.mk (blk_below (bk BK227.out) hb)
                       have n5_ := Aside0.mk (blk_below (bk BK228.out) hb)
                       have n6_ := Aside0.mk (blk_below (bk BK246.out) hb)
                       have n7_ := Aside0.mk (below_step (q4 HB.out GE220.out GE221.out GE222.out GE227.out GE228.out GE246.out) hb)
                       clear HO_14
                       clear BK220
                       clear BK221
                       clear BK222
                       clear BK227
                       clear BK228
                       clear BK246
                       clear HB
                       have HO_14 := n0_
                       have BK220 := n1_
                       have BK221 := n2_
                       have BK222 := n3_
                       have BK227 := n4_
                       have BK228 := n5_
                       have BK246 := n6_
                       have HB := n7_
                       clear n0_ n1_ n2_ n3_ n4_ n5_ n6_ n7_
                       (try clear hb)
                       (try clear hb2)
                       (try clear hk)
                       (try clear hi)
                       refine hK.out _ _ ⟨bc BK220 0, bc BK222 0, bc BK222 1, HS3_, HS4_⟩ (fun hHeld => ?_)
                       clear hK K
                       refine norm_ (a' := ?_) ?_ ?_
                       rotate_left
                       ·show Act.put _ (some 109) _ = _
                        simp only [Act.put, List.setIfInBounds_toArray, List.set_cons_zero, List.set_cons_succ, i64_w, i32_w]
                        rfl
                       refine pure_ (i := 8) (N := some 101) (v := ?_) (a' := ?_) #[true, true, true, true, true, true, true, true, true, false, false, true, false, false] rfl rfl (any_of HT_.out (by kernel_rfl)) (fun _ _ _ h => h) (Or.inl ⟨by rfl, ?_⟩) ?_ ?_
                       rotate_left
                       ·intro w'
                        go_simp
                        with_reducible rfl
                       rotate_left
                       ·simp only [Act.put, List.setIfInBounds_toArray, List.set_cons_zero, List.set_cons_succ, i64_w, i32_w]
                        rfl
                       refine pure_ (i := 9) (N := some 110) (v := ?_) (a' := ?_) #[true, true, true, true, true, true, true, true, true, true, false, true, false, false] rfl rfl (any_of HT_.out (by kernel_rfl)) (fun _ _ _ h => h) (Or.inl ⟨by rfl, ?_⟩) ?_ ?_
                       rotate_left
                       ·intro w'
                        go_simp
                        with_reducible rfl
                       rotate_left
                       ·simp only [Act.put, List.setIfInBounds_toArray, List.set_cons_zero, List.set_cons_succ, i64_w, i32_w]
                        rfl
                       refine pure_ (i := 10) (N := some 111) (v := ?_) (a' := ?_) #[true, true, true, true, true, true, true, true, true, true, true, true, false, false] rfl rfl (any_of HT_.out (by kernel_rfl)) (fun _ _ _ h => h) (Or.inl ⟨by rfl, ?_⟩) ?_ ?_
                       rotate_left
                       ·intro w'
                        go_simp
                        with_reducible rfl
                       rotate_left
                       ·simp only [Act.put, List.setIfInBounds_toArray, List.set_cons_zero, List.set_cons_succ, i64_w, i32_w]
                        rfl
                       exact norm_ (by simp only [putAll, Act.put, List.setIfInBounds_toArray, List.set_cons_zero, List.set_cons_succ]) (hCont (gb246) _ ⟨hHeld, (br HO_14.out), (bk BK220.out), (bk BK221.out), (bk BK222.out), (bk BK227.out), (bk BK228.out), (bk BK246.out), GW246.out, GE246.out, NB220_246.out, NB246_220.out, NB221_246.out, NB246_221.out, NB222_246.out, NB246_222.out, NB227_246.out, NB246_227.out, NB228_246.out, NB246_228.out, (q4 HB.out GE220.out GE221.out GE222.out GE227.out GE228.out GE246.out)⟩)
                     rintro gb246 w69 ⟨hS_, h0_, h1_, h2_, h3_, h4_, h5_, h6_, h7_, h8_, h9_, h10_, h11_, h12_, h13_, h14_, h15_, h16_, h17_, h18_, h19_⟩
                     have n0_ : Aside0 (Kd.R k25 25 w69 w.heap.size (fun k_ => k_ ≠ gb227 ∧ k_ ≠ gb228) (.slice (some ad242) y237.length co66) y237) := ⟨h0_⟩
                     have n1_ : Aside0 (w69.heap[gb220]? = some (.cells #[.int .i64 a0_0] 27 (0, 0))) := ⟨h1_⟩
                     have n2_ : Aside0 (w69.heap[gb221]? = some (.cells #[.int .i64 a1_0, .int .i64 a1_1] 23 (0, 0))) := ⟨h2_⟩
                     have n3_ : Aside0 (w69.heap[gb222]? = some (.cells #[.int .i64 a2_0, .int .i64 a2_1] 23 (0, 0))) := ⟨h3_⟩
                     have n4_ : Aside0 (w69.heap[gb227]? = some (.cells #[.int .i64 t223, .int .i64 t224] 25 (0, 0))) := ⟨h4_⟩
                     have n5_ : Aside0 (w69.heap[gb228]? = some (.cells #[.int .i64 (wrap64 (t223 + x11_1)), .int .i64 (wrap64 (t224 + x12_3))] 25 (0, 0))) := ⟨h5_⟩
                     have n6_ : Aside0 (w69.heap[gb246]? = some (.cells #[.int .i64 0, .int .i64 0] 23 (0, 0))) := ⟨h6_⟩
                     have n7_ : Aside0 (w.heap.size ≤ gb246) := ⟨h7_⟩
                     have n8_ : Aside0 (w.heap.size ≤ gb246) := ⟨h8_⟩
                     have n9_ : Aside0 (gb220 ≠ gb246) := ⟨h9_⟩
                     have n10_ : Aside0 (gb246 ≠ gb220) := ⟨h10_⟩
                     have n11_ : Aside0 (gb221 ≠ gb246) := ⟨h11_⟩
                     have n12_ : Aside0 (gb246 ≠ gb221) := ⟨h12_⟩
                     have n13_ : Aside0 (gb222 ≠ gb246) := ⟨h13_⟩
                     have n14_ : Aside0 (gb246 ≠ gb222) := ⟨h14_⟩
                     have n15_ : Aside0 (gb227 ≠ gb246) := ⟨h15_⟩
                     have n16_ : Aside0 (gb246 ≠ gb227) := ⟨h16_⟩
                     have n17_ : Aside0 (gb228 ≠ gb246) := ⟨h17_⟩
                     have n18_ : Aside0 (gb246 ≠ gb228) := ⟨h18_⟩
                     have n19_ : Aside0 (Below w.heap.size w w69) := ⟨h19_⟩
                     clear HO_14
                     clear BK220
                     clear BK221
                     clear BK222
                     clear BK227
                     clear BK228
                     clear HB
                     clear h0_ h1_ h2_ h3_ h4_ h5_ h6_ h7_ h8_ h9_ h10_ h11_ h12_ h13_ h14_ h15_ h16_ h17_ h18_ h19_
                     have HO_14 := n0_
                     have BK220 := n1_
                     have BK221 := n2_
                     have BK222 := n3_
                     have BK227 := n4_
                     have BK228 := n5_
                     have BK246 := n6_
                     have GW246 := n7_
                     have GE246 := n8_
                     have NB220_246 := n9_
                     have NB246_220 := n10_
                     have NB221_246 := n11_
                     have NB246_221 := n12_
                     have NB222_246 := n13_
                     have NB246_222 := n14_
                     have NB227_246 := n15_
                     have NB246_227 := n16_
                     have NB228_246 := n17_
                     have NB246_228 := n18_
                     have HB := n19_
                     clear n0_ n1_ n2_ n3_ n4_ n5_ n6_ n7_ n8_ n9_ n10_ n11_ n12_ n13_ n14_ n15_ n16_ n17_ n18_ n19_
                     have hHeld : w69.cell? ⟨gb220, 0, none⟩ = some (.int .i64 a0_0) ∧ w69.cell? ⟨gb222, 0, none⟩ = some (.int .i64 a2_0) ∧ w69.cell? ⟨gb222, 1, none⟩ = some (.int .i64 a2_1) ∧ w69.cell? (ad242.add ((x15_5).toNat * 2)) = some (.int .i64 ((rd_T25 y237 x15_5).f0)) ∧ w69.cell? ⟨(ad242.add ((x15_5).toNat * 2)).block, (ad242.add ((x15_5).toNat * 2)).off + 1, none⟩ = some (.int .i64 ((rd_T25 y237 x15_5).f1)) := hS_
                     refine norm_ (a' := ?_) ?_ ?_
                     rotate_left
                     ·simp only [putAll, Act.put, List.setIfInBounds_toArray, List.set_cons_zero, List.set_cons_succ]
                      rfl
                     refine one_ (i := 12) (N := none) #[true, true, true, true, true, true, true, true, true, true, true, true, true, false] rfl rfl (one_of HT_.out (by kernel_rfl)) (by decide) (fun K hK => ?_)
                     have hs70 : w69.cell? ⟨gb246, 0, none⟩ = some (.int .i64 0) := bc BK246 0
                     have hfs70 := blk_frozen BK246.out 0
                     have hns70_0 := NB220_246.out
                     have hns70_1 := NB221_246.out
                     have hns70_2 := NB222_246.out
                     have hns70_3 := NB227_246.out
                     have hns70_4 := NB228_246.out
                     have hms70_0 := NB246_220.out
                     have hms70_1 := NB246_221.out
                     have hms70_2 := NB246_222.out
                     have hms70_3 := NB246_227.out
                     have hms70_4 := NB246_228.out
                     have hs71 : w69.cell? ⟨gb246, 1, none⟩ = some (.int .i64 0) := bc BK246 1
                     have hfs71 := blk_frozen BK246.out 1
                     have hns71_0 := NB220_246.out
                     have hns71_1 := NB221_246.out
                     have hns71_2 := NB222_246.out
                     have hns71_3 := NB227_246.out
                     have hns71_4 := NB228_246.out
                     have hms71_0 := NB246_220.out
                     have hms71_1 := NB246_221.out
                     have hms71_2 := NB246_222.out
                     have hms71_3 := NB246_227.out
                     have hms71_4 := NB246_228.out
                     refine skip_ (w1 := ?_) (by rfl) rfl ?_ ?_
                     rotate_left
                     ·go_simp
                      rfl
                     refine hK.out _ _ ⟨((cell_far (p := ⟨gb246, _, none⟩) NB220_246.out _).trans (((cell_far (p := ⟨gb246, _, none⟩) NB220_246.out _).trans (hHeld.1)))), ((cell_far (p := ⟨gb246, _, none⟩) NB222_246.out _).trans (((cell_far (p := ⟨gb246, _, none⟩) NB222_246.out _).trans (hHeld.2.1)))), ((cell_far (p := ⟨gb246, _, none⟩) NB222_246.out _).trans (((cell_far (p := ⟨gb246, _, none⟩) NB222_246.out _).trans (hHeld.2.2.1)))), ((cell_far (p := ⟨gb246, _, none⟩) (by first | exact Kd.own_blk (Kd.R_ne HO_14.out BK246.out (by decide)) | (rw [add_block]; exact Kd.own_blk (Kd.R_ne HO_14.out BK246.out (by decide))) | (show (Addr.add _ _).block ≠ _; rw [add_block]; exact Kd.own_blk (Kd.R_ne HO_14.out BK246.out (by decide))) | (dsimp only; exact Kd.own_blk (Kd.R_ne HO_14.out BK246.out (by decide)))) _).trans (((cell_far (p := ⟨gb246, _, none⟩) (by first | exact Kd.own_blk (Kd.R_ne HO_14.out BK246.out (by decide)) | (rw [add_block]; exact Kd.own_blk (Kd.R_ne HO_14.out BK246.out (by decide))) | (show (Addr.add _ _).block ≠ _; rw [add_block]; exact Kd.own_blk (Kd.R_ne HO_14.out BK246.out (by decide))) | (dsimp only; exact Kd.own_blk (Kd.R_ne HO_14.out BK246.out (by decide)))) _).trans (hHeld.2.2.2.1)))), ((cell_far (p := ⟨gb246, _, none⟩) (by first | exact Kd.own_blk (Kd.R_ne HO_14.out BK246.out (by decide)) | (rw [add_block]; exact Kd.own_blk (Kd.R_ne HO_14.out BK246.out (by decide))) | (show (Addr.add _ _).block ≠ _; rw [add_block]; exact Kd.own_blk (Kd.R_ne HO_14.out BK246.out (by decide))) | (dsimp only; exact Kd.own_blk (Kd.R_ne HO_14.out BK246.out (by decide)))) _).trans (((cell_far (p := ⟨gb246, _, none⟩) (by first | exact Kd.own_blk (Kd.R_ne HO_14.out BK246.out (by decide)) | (rw [add_block]; exact Kd.own_blk (Kd.R_ne HO_14.out BK246.out (by decide))) | (show (Addr.add _ _).block ≠ _; rw [add_block]; exact Kd.own_blk (Kd.R_ne HO_14.out BK246.out (by decide))) | (dsimp only; exact Kd.own_blk (Kd.R_ne HO_14.out BK246.out (by decide)))) _).trans (hHeld.2.2.2.2))))⟩ (fun hHeld => ?_)
                     clear hK K
                     refine pure_ (i := 13) (N := some 18) (v := ?_) (a' := ?_) #[true, true, true, true, true, true, true, true, true, true, true, true, true, true] rfl rfl (any_of HT_.out (by kernel_rfl)) (fun _ _ _ h => h) (Or.inl ⟨by rfl, ?_⟩) ?_ ?_
                     rotate_left
                     ·intro w'
                      go_simp
                      with_reducible rfl
                     rotate_left
                     ·simp only [Act.put, List.setIfInBounds_toArray, List.set_cons_zero, List.set_cons_succ, i64_w, i32_w]
                      rfl
                     refine done_ (done_of HT_.out (by kernel_rfl)) ?_
                     try go_wp2_with (first | ((with_reducible refine gate_callee (f := 78) rfl ?_); refine goesL_ (some 113) rfl rfl Try.func78 (by kernel_rfl) rfl #[.int .i64 t245] rfl (by (try simp only [List.map_toArray, List.map_cons, List.map_nil]); first | done | rfl | (simp only [List.length_drop, List.length_take]; rfl)) ?_; (with_reducible refine (glebelaw06_num.calls t245 t247 _ A61.out).mono ?_); rintro e w' ⟨rfl, ⟨nd, rfl⟩⟩; refine ⟨_, rfl, ?_⟩; have hnb72 := NB246_220.out; have hnc72 := NB220_246.out; have hnb73 := NB246_221.out; have hnc73 := NB221_246.out; have hnb74 := NB246_222.out; have hnc74 := NB222_246.out; have hnb75 := NB246_227.out; have hnc75 := NB227_246.out; have hnb76 := NB246_228.out; have hnc76 := NB228_246.out; have hcz77_0 : w69.cell? ⟨gb246, 0, none⟩ = some (.int .i64 0) := bc BK246 0; have hcz77_1 : w69.cell? ⟨gb246, 1, none⟩ = some (.int .i64 0) := bc BK246 1; have hfz77_0 := blk_frozen BK246.out 0; have hfz77_1 := blk_frozen BK246.out 1; have hnb78 := NB222_220.out; have hnc78 := NB220_222.out; have hnb79 := NB222_221.out; have hnc79 := NB221_222.out; have hnb80 := NB222_227.out; have hnc80 := NB227_222.out; have hnb81 := NB222_228.out; have hnc81 := NB228_222.out; have hcz82_0 : w69.cell? ⟨gb222, 0, none⟩ = some (.int .i64 a2_0) := bc BK222 0; have hcz82_1 : w69.cell? ⟨gb222, 1, none⟩ = some (.int .i64 a2_1) := bc BK222 1; have hfz82_0 := blk_frozen BK222.out 0; have hfz82_1 := blk_frozen BK222.out 1))
                     go_roundg kj47
                     case measure => have := HK1.out; have := HJ18.out; have := HK3.out; have := HJ21.out; have := HK5.out; have := HJ47.out; omega
                     case rel => exact ⟨(x10_5), (wrap64 (x15_5 + 1)), (by first | rfl | (simp; done) | (simp [*]; done)), (by first | rfl | (simp; done) | (simp [*]; done)), H', ⟨by have := HK1.out; have := HJ18.out; have := HK3.out; have := HJ21.out; have := HK5.out; have := HJ47.out; omega⟩, ⟨by (with_reducible repeat (first | apply Kd.R_alloc | apply Kd.R_drewN | apply Kd.R_drew)); exact Kd.R_mono (Kd.R_far (p := ⟨gb246, 1, none⟩) (Kd.R_far (p := ⟨gb246, 0, none⟩) (Kd.R_types HO_14.out BK246.out (by decide)) (fun _ hk => hk.2) (.int .i64 t243)) (fun _ hk => hk.2) (.int .i64 t244)) (fun _ hk => ⟨hk.1.1, hk.1.2⟩)⟩, ⟨(bp1 BK220.out NB220_246.out)⟩, ⟨(bp1 BK221.out NB221_246.out)⟩, ⟨(bp1 BK222.out NB222_246.out)⟩, ⟨(bp1 BK227.out NB227_246.out)⟩, ⟨(bp1 BK228.out NB228_246.out)⟩, ⟨by exact q4 HB.out GE220.out GE221.out GE222.out GE227.out GE228.out GE246.out⟩⟩
                    ·replace c64 := Bool.eq_false_iff.mpr c64
                     subst c64
                     have H1 : (glebelaw06_cells.l2 kj47 t225 t226 (wrap64 (x10_5 + 1)) x11_1 x12_3 y237 (wrap64 (x15_5 + 1)) a0_0 a2_0 a2_1 t223 t224) = some r := by rw [if_neg (show ¬ (false = true) by decide)] at H; exact H
                     clear H
                     have H := H1
                     clear H1
                     have H' := Aside0.mk H
                     clear H
                     try go_wp2
                     have n0_ := Aside0.mk (Kd.R_drew HO_14.out)
                     have n1_ := Aside0.mk (blk_drew BK220.out)
                     have n2_ := Aside0.mk (blk_drew BK221.out)
                     have n3_ := Aside0.mk (blk_drew BK222.out)
                     have n4_ := Aside0.mk (blk_drew BK227.out)
                     have n5_ := Aside0.mk (blk_drew BK228.out)
                     have n6_ := Aside0.mk (below_drew1 HB.out)
                     clear HO_14
                     clear BK220
                     clear BK221
                     clear BK222
                     clear BK227
                     clear BK228
                     clear HB
                     have HO_14 := n0_
                     have BK220 := n1_
                     have BK221 := n2_
                     have BK222 := n3_
                     have BK227 := n4_
                     have BK228 := n5_
                     have HB := n6_
                     clear n0_ n1_ n2_ n3_ n4_ n5_ n6_
                     obtain ⟨Ao84, co84, eo84⟩ := Kd.R_slice HO_14.out
                     (first | subst eo84 | (injection eo84 with f1_ f2_ f3_; have f4_ := f1_.symm; have f5_ := f3_.symm; clear f1_ f2_ f3_; subst f4_; subst f5_))
                     have p242 : 0 ≤ (x15_5 : Int) := of_decide_eq_true (by first | (with_reducible assumption) | assumption)
                     have q242 : x15_5 < (y237.length : Int) := of_decide_eq_true (by first | (with_reducible assumption) | assumption)
                     obtain ⟨ad242, e242, hx242_0, hx242_1⟩ := at_T25 (Kd.R_reads' HO_14.out).2.2 x15_5 p242 q242
                     cases e242
                     replace p242 := eq_true p242
                     replace q242 := eq_true q242
                     refine start_ (n := 14) (S := fun w' => w'.cell? ⟨gb220, 0, none⟩ = some (.int .i64 a0_0) ∧ w'.cell? ⟨gb222, 0, none⟩ = some (.int .i64 a2_0) ∧ w'.cell? ⟨gb222, 1, none⟩ = some (.int .i64 a2_1) ∧ w'.cell? (ad242.add ((x15_5).toNat * 2)) = some (.int .i64 ((rd_T25 y237 x15_5).f0)) ∧ w'.cell? ⟨(ad242.add ((x15_5).toNat * 2)).block, (ad242.add ((x15_5).toNat * 2)).off + 1, none⟩ = some (.int .i64 ((rd_T25 y237 x15_5).f1))) (ds := []) #[false, false, false, false, false, false, false, false, false, false, false, false, false, false] (by kernel_rfl) rfl rfl ⟨bc BK220 0, bc BK222 0, bc BK222 1, hx242_0, hx242_1⟩ (fun hHeld => ?_); refine with_tabW glebelaw06_cells.tab15 glebelaw06_cells.bits15 (fun HT_ HW_ => ?_)
                     generalize wc.drew = w83 at HO_14 BK220 BK221 BK222 BK227 BK228 HB hx242_0 hx242_1 hHeld ⊢
                     refine pure_ (i := 1) (N := some 103) (v := ?_) (a' := ?_) #[false, true, false, false, false, false, false, false, false, false, false, false, false, false] rfl rfl (any_of HT_.out (by kernel_rfl)) (fun _ _ _ h => h) (Or.inl ⟨by rfl, ?_⟩) ?_ ?_
                     rotate_left
                     ·intro w'
                      go_simp
                      with_reducible rfl
                     rotate_left
                     ·simp only [Act.put, List.setIfInBounds_toArray, List.set_cons_zero, List.set_cons_succ, i64_w, i32_w]
                      rfl
                     refine pure_ (i := 2) (N := some 104) (v := ?_) (a' := ?_) #[false, true, true, false, false, false, false, false, false, false, false, false, false, false] rfl rfl (any_of HT_.out (by kernel_rfl)) (fun _ _ _ h => h) (Or.inl ⟨by rfl, ?_⟩) ?_ ?_
                     rotate_left
                     ·intro w'
                      go_simp
                      with_reducible rfl
                     rotate_left
                     ·simp only [Act.put, List.setIfInBounds_toArray, List.set_cons_zero, List.set_cons_succ, i64_w, i32_w]
                      rfl
                     refine pure_ (i := 3) (N := some 105) (v := ?_) (a' := ?_) #[false, true, true, true, false, false, false, false, false, false, false, false, false, false] rfl rfl (any_of HT_.out (by kernel_rfl)) (fun _ _ _ h => h) (Or.inl ⟨by rfl, ?_⟩) ?_ ?_
                     rotate_left
                     ·intro w'
                      go_simp
                      with_reducible rfl
                     rotate_left
                     ·simp only [Act.put, List.setIfInBounds_toArray, List.set_cons_zero, List.set_cons_succ, i64_w, i32_w]
                      rfl
                     refine pure_ (i := 5) (N := some 107) (v := ?_) (a' := ?_) #[false, true, true, true, false, true, false, false, false, false, false, false, false, false] rfl rfl (any_of HT_.out (by kernel_rfl)) (fun _ _ _ h => h) (Or.inl ⟨by rfl, ?_⟩) ?_ ?_
                     rotate_left
                     ·intro w'
                      go_simp
                      with_reducible rfl
                     rotate_left
                     ·simp only [Act.put, List.setIfInBounds_toArray, List.set_cons_zero, List.set_cons_succ, i64_w, i32_w]
                      rfl
                     refine take_ (i := 0) (N := some 102) (v := ?_) (a' := ?_) #[true, true, true, true, false, true, false, false, false, false, false, false, false, false] rfl rfl (take_ofW HT_.out HW_.out (by kernel_rfl)) (fun _ _ _ h => h) (Or.inl ⟨by rfl, ?_⟩) hHeld ?_ ?_
                     rotate_left
                     ·rintro w' ⟨s0, s1, s2, s3, s4⟩
                      go_simp
                      with_reducible rfl
                     rotate_left
                     ·simp only [Act.put, List.setIfInBounds_toArray, List.set_cons_zero, List.set_cons_succ, i64_w, i32_w]
                      rfl
                     refine take_ (i := 4) (N := some 106) (v := ?_) (a' := ?_) #[true, true, true, true, true, true, false, false, false, false, false, false, false, false] rfl rfl (take_ofW HT_.out HW_.out (by kernel_rfl)) (fun _ _ _ h => h) (Or.inl ⟨by rfl, ?_⟩) hHeld ?_ ?_
                     rotate_left
                     ·rintro w' ⟨s0, s1, s2, s3, s4⟩
                      go_simp
                      with_reducible rfl
                     rotate_left
                     ·simp only [Act.put, List.setIfInBounds_toArray, List.set_cons_zero, List.set_cons_succ, i64_w, i32_w]
                      rfl
                     refine take_ (i := 6) (N := some 108) (v := ?_) (a' := ?_) #[true, true, true, true, true, true, true, false, false, false, false, false, false, false] rfl rfl (take_ofW HT_.out HW_.out (by kernel_rfl)) (fun _ _ _ h => h) (Or.inl ⟨by rfl, ?_⟩) hHeld ?_ ?_
                     rotate_left
                     ·rintro w' ⟨s0, s1, s2, s3, s4⟩
                      go_simp
                      with_reducible rfl
                     rotate_left
                     ·simp only [Act.put, List.setIfInBounds_toArray, List.set_cons_zero, List.set_cons_succ, i64_w, i32_w]
                      rfl
                     refine join_ (σ := Nat) 2 #[true, true, true, true, true, true, true, true, true, true, true, true, false, false] (fun s_ => [(109, .tuple #[.agg #[.int .i64 t243, .int .i64 t244], .int .i64 t245]), (17, .pointer (some ⟨s_, 0, none⟩)), (101, .tuple #[.agg #[.int .i64 t243, .int .i64 t244], .int .i64 t245]), (110, .agg #[.int .i64 t243, .int .i64 t244]), (111, .int .i64 t245)]) (fun s_ w' => (w'.cell? ⟨gb220, 0, none⟩ = some (.int .i64 a0_0) ∧ w'.cell? ⟨gb222, 0, none⟩ = some (.int .i64 a2_0) ∧ w'.cell? ⟨gb222, 1, none⟩ = some (.int .i64 a2_1) ∧ w'.cell? (ad242.add ((x15_5).toNat * 2)) = some (.int .i64 ((rd_T25 y237 x15_5).f0)) ∧ w'.cell? ⟨(ad242.add ((x15_5).toNat * 2)).block, (ad242.add ((x15_5).toNat * 2)).off + 1, none⟩ = some (.int .i64 ((rd_T25 y237 x15_5).f1))) ∧ (Kd.R k25 25 w' w.heap.size (fun k_ => k_ ≠ gb227 ∧ k_ ≠ gb228) (.slice (some ad242) y237.length co84) y237) ∧ (w'.heap[gb220]? = some (.cells #[.int .i64 a0_0] 27 (0, 0))) ∧ (w'.heap[gb221]? = some (.cells #[.int .i64 a1_0, .int .i64 a1_1] 23 (0, 0))) ∧ (w'.heap[gb222]? = some (.cells #[.int .i64 a2_0, .int .i64 a2_1] 23 (0, 0))) ∧ (w'.heap[gb227]? = some (.cells #[.int .i64 t223, .int .i64 t224] 25 (0, 0))) ∧ (w'.heap[gb228]? = some (.cells #[.int .i64 (wrap64 (t223 + x11_1)), .int .i64 (wrap64 (t224 + x12_3))] 25 (0, 0))) ∧ (w'.heap[s_]? = some (.cells #[.int .i64 0, .int .i64 0] 23 (0, 0))) ∧ (w.heap.size ≤ s_) ∧ (w.heap.size ≤ s_) ∧ (gb220 ≠ s_) ∧ (s_ ≠ gb220) ∧ (gb221 ≠ s_) ∧ (s_ ≠ gb221) ∧ (gb222 ≠ s_) ∧ (s_ ≠ gb222) ∧ (gb227 ≠ s_) ∧ (s_ ≠ gb227) ∧ (gb228 ≠ s_) ∧ (s_ ≠ gb228) ∧ (Below w.heap.size w w')) ?_ ?_
                     rotate_left
                     ·intro hCont
                      refine two_ (i := 7) (j := 11) (Ni := some 109) (Nj := some 17) #[true, true, true, true, true, true, true, true, false, false, false, false, false, false] #[true, true, true, true, true, true, true, false, false, false, false, true, false, false] rfl rfl rfl rfl (two_of HT_.out (by kernel_rfl)) (by decide) (by decide) (fun K hK => ?_) (fun K hK => ?_)
                      ·skip
                       refine goes_ Try.func59 (by kernel_rfl) rfl #[.agg #[.int .i64 a0_0], .agg #[.int .i64 ((rd_T25 y237 x15_5).f0), .int .i64 ((rd_T25 y237 x15_5).f1)], .int .i64 a2_0] (by rfl) rfl rfl (by (try simp only [List.map_toArray, List.map_cons, List.map_nil]); first | done | rfl | (simp only [List.length_drop, List.length_take]; rfl)) ?_
                       with_reducible refine (path_At.calls kj47 a0_0 ((rd_T25 y237 x15_5).f0) ((rd_T25 y237 x15_5).f1) a2_0 t243 t244 t245 _ A60.out).mono ?_
                       rintro e w85 ⟨rfl, hb⟩
                       have HS3_ := (hb.cell (World.block_lt_of_cell? _ _ (hHeld.2.2.2.1))).trans (hHeld.2.2.2.1)
                       have HS4_ := (hb.cell (World.block_lt_of_cell? _ _ (hHeld.2.2.2.2))).trans (hHeld.2.2.2.2)
                       refine ⟨_, rfl, ?_⟩
                       have n0_ := Aside0.mk (Kd.R_below (br HO_14.out) hb)
                       have n1_ := Aside0.mk (blk_below (bk BK220.out) hb)
                       have n2_ := Aside0.mk (blk_below (bk BK221.out) hb)
                       have n3_ := Aside0.mk (blk_below (bk BK222.out) hb)
                       have n4_ := Aside0.mk (blk_below (bk BK227.out) hb)
                       have n5_ := Aside0.mk (blk_below (bk BK228.out) hb)
                       have n6_ := Aside0.mk (below_step (q3 HB.out GE220.out GE221.out GE222.out GE227.out GE228.out) hb)
                       clear HO_14
                       clear BK220
                       clear BK221
                       clear BK222
                       clear BK227
                       clear BK228
                       clear HB
                       have HO_14 := n0_
                       have BK220 := n1_
                       have BK221 := n2_
                       have BK222 := n3_
                       have BK227 := n4_
                       have BK228 := n5_
                       have HB := n6_
                       clear n0_ n1_ n2_ n3_ n4_ n5_ n6_
                       (try clear hb)
                       (try clear hb2)
                       (try clear hk)
                       (try clear hi)
                       refine hK.out _ _ ⟨bc BK220 0, bc BK222 0, bc BK222 1, HS3_, HS4_⟩ (fun hHeld => ?_)
                       clear hK K
                       refine norm_ (a' := ?_) ?_ ?_
                       rotate_left
                       ·show Act.put _ (some 109) _ = _
                        simp only [Act.put, List.setIfInBounds_toArray, List.set_cons_zero, List.set_cons_succ, i64_w, i32_w]
                        rfl
                       refine pure_ (i := 8) (N := some 101) (v := ?_) (a' := ?_) #[true, true, true, true, true, true, true, true, true, false, false, false, false, false] rfl rfl (any_of HT_.out (by kernel_rfl)) (fun _ _ _ h => h) (Or.inl ⟨by rfl, ?_⟩) ?_ ?_
                       rotate_left
                       ·intro w'
                        go_simp
                        with_reducible rfl
                       rotate_left
                       ·simp only [Act.put, List.setIfInBounds_toArray, List.set_cons_zero, List.set_cons_succ, i64_w, i32_w]
                        rfl
                       refine pure_ (i := 9) (N := some 110) (v := ?_) (a' := ?_) #[true, true, true, true, true, true, true, true, true, true, false, false, false, false] rfl rfl (any_of HT_.out (by kernel_rfl)) (fun _ _ _ h => h) (Or.inl ⟨by rfl, ?_⟩) ?_ ?_
                       rotate_left
                       ·intro w'
                        go_simp
                        with_reducible rfl
                       rotate_left
                       ·simp only [Act.put, List.setIfInBounds_toArray, List.set_cons_zero, List.set_cons_succ, i64_w, i32_w]
                        rfl
                       refine pure_ (i := 10) (N := some 111) (v := ?_) (a' := ?_) #[true, true, true, true, true, true, true, true, true, true, true, false, false, false] rfl rfl (any_of HT_.out (by kernel_rfl)) (fun _ _ _ h => h) (Or.inl ⟨by rfl, ?_⟩) ?_ ?_
                       rotate_left
                       ·intro w'
                        go_simp
                        with_reducible rfl
                       rotate_left
                       ·simp only [Act.put, List.setIfInBounds_toArray, List.set_cons_zero, List.set_cons_succ, i64_w, i32_w]
                        rfl
                       refine one_ (i := 11) (N := some 17) #[true, true, true, true, true, true, true, true, true, true, true, true, false, false] rfl rfl (one_of HT_.out (by kernel_rfl)) (by decide) (fun K hK => ?_)
                       refine box_step ?hg (N := 17) ?hd (cs := #[.int .i64 0, .int .i64 0]) (t := 23) ?hr ?_; (case hd => rfl); (case hg => rfl); (case hr => first | (go_simp; done) | (go_simp; rfl))
                       intro gb246 hg w86 hbox hb
                       have HS3_ := (hb.cell (World.block_lt_of_cell? _ _ (hHeld.2.2.2.1))).trans (hHeld.2.2.2.1)
                       have HS4_ := (hb.cell (World.block_lt_of_cell? _ _ (hHeld.2.2.2.2))).trans (hHeld.2.2.2.2)
                       have n0_ := Aside0.mk (Kd.R_below (br HO_14.out) hb)
                       have n1_ := Aside0.mk (blk_below (bk BK220.out) hb)
                       have n2_ := Aside0.mk (blk_below (bk BK221.out) hb)
                       have n3_ := Aside0.mk (blk_below (bk BK222.out) hb)
                       have n4_ := Aside0.mk (blk_below (bk BK227.out) hb)
                       have n5_ := Aside0.mk (blk_below (bk BK228.out) hb)
                       have n6_ := Aside0.mk (below_step (q3 HB.out GE220.out GE221.out GE222.out GE227.out GE228.out) hb)
                       have n7_ := Aside0.mk (hbox)
                       have n8_ := Aside0.mk ((by rw [hg]; exact (below_size (q3 HB.out GE220.out GE221.out GE222.out GE227.out GE228.out)) : w.heap.size ≤ gb246))
                       have n9_ := Aside0.mk ((by rw [hg]; exact (below_size (q3 HB.out GE220.out GE221.out GE222.out GE227.out GE228.out)) : w.heap.size ≤ gb246))
                       have n10_ := Aside0.mk ((by rw [hg]; exact Nat.ne_of_lt (blk_lt (g := gb220) (o := .cells #[.int .i64 a0_0] 27 (0, 0)) (bk BK220.out)) : gb220 ≠ gb246))
                       have n11_ := Aside0.mk ((by rw [hg]; exact Nat.ne_of_gt (blk_lt (g := gb220) (o := .cells #[.int .i64 a0_0] 27 (0, 0)) (bk BK220.out)) : gb246 ≠ gb220))
                       have n12_ := Aside0.mk ((by rw [hg]; exact Nat.ne_of_lt (blk_lt (g := gb221) (o := .cells #[.int .i64 a1_0, .int .i64 a1_1] 23 (0, 0)) (bk BK221.out)) : gb221 ≠ gb246))
                       have n13_ := Aside0.mk ((by rw [hg]; exact Nat.ne_of_gt (blk_lt (g := gb221) (o := .cells #[.int .i64 a1_0, .int .i64 a1_1] 23 (0, 0)) (bk BK221.out)) : gb246 ≠ gb221))
                       have n14_ := Aside0.mk ((by rw [hg]; exact Nat.ne_of_lt (blk_lt (g := gb222) (o := .cells #[.int .i64 a2_0, .int .i64 a2_1] 23 (0, 0)) (bk BK222.out)) : gb222 ≠ gb246))
                       have n15_ := Aside0.mk ((by rw [hg]; exact Nat.ne_of_gt (blk_lt (g := gb222) (o := .cells #[.int .i64 a2_0, .int .i64 a2_1] 23 (0, 0)) (bk BK222.out)) : gb246 ≠ gb222))
                       have n16_ := Aside0.mk ((by rw [hg]; exact Nat.ne_of_lt (blk_lt (g := gb227) (o := .cells #[.int .i64 t223, .int .i64 t224] 25 (0, 0)) (bk BK227.out)) : gb227 ≠ gb246))
                       have n17_ := Aside0.mk ((by rw [hg]; exact Nat.ne_of_gt (blk_lt (g := gb227) (o := .cells #[.int .i64 t223, .int .i64 t224] 25 (0, 0)) (bk BK227.out)) : gb246 ≠ gb227))
                       have n18_ := Aside0.mk ((by rw [hg]; exact Nat.ne_of_lt (blk_lt (g := gb228) (o := .cells #[.int .i64 (wrap64 (t223 + x11_1)), .int .i64 (wrap64 (t224 + x12_3))] 25 (0, 0)) (bk BK228.out)) : gb228 ≠ gb246))
                       have n19_ := Aside0.mk ((by rw [hg]; exact Nat.ne_of_gt (blk_lt (g := gb228) (o := .cells #[.int .i64 (wrap64 (t223 + x11_1)), .int .i64 (wrap64 (t224 + x12_3))] 25 (0, 0)) (bk BK228.out)) : gb246 ≠ gb228))
                       clear HO_14
                       clear BK220
                       clear BK221
                       clear BK222
                       clear BK227
                       clear BK228
                       clear HB
                       have HO_14 := n0_
                       have BK220 := n1_
                       have BK221 := n2_
                       have BK222 := n3_
                       have BK227 := n4_
                       have BK228 := n5_
                       have HB := n6_
                       have BK246 := n7_
                       have GW246 := n8_
                       have GE246 := n9_
                       have NB220_246 := n10_
                       have NB246_220 := n11_
                       have NB221_246 := n12_
                       have NB246_221 := n13_
                       have NB222_246 := n14_
                       have NB246_222 := n15_
                       have NB227_246 := n16_
                       have NB246_227 := n17_
                       have NB228_246 := n18_
                       have NB246_228 := n19_
                       clear n0_ n1_ n2_ n3_ n4_ n5_ n6_ n7_ n8_ n9_ n10_ n11_ n12_ n13_ n14_ n15_ n16_ n17_ n18_ n19_
                       clear hb hbox hg
                       refine hK.out _ _ ⟨bc BK220 0, bc BK222 0, bc BK222 1, HS3_, HS4_⟩ (fun hHeld => ?_)
                       clear hK K
                       refine norm_ (a' := ?_) ?_ ?_
                       rotate_left
                       ·show Act.put _ (some 17) _ = _
                        simp only [Act.put, List.setIfInBounds_toArray, List.set_cons_zero, List.set_cons_succ, i64_w, i32_w]
                        rfl
                       exact norm_ (by simp only [putAll, Act.put, List.setIfInBounds_toArray, List.set_cons_zero, List.set_cons_succ]) (hCont (gb246) _ ⟨hHeld, (br HO_14.out), (bk BK220.out), (bk BK221.out), (bk BK222.out), (bk BK227.out), (bk BK228.out), (bk BK246.out), GW246.out, GE246.out, NB220_246.out, NB246_220.out, NB221_246.out, NB246_221.out, NB222_246.out, NB246_222.out, NB227_246.out, NB246_227.out, NB228_246.out, NB246_228.out, (q4 HB.out GE220.out GE221.out GE222.out GE227.out GE228.out GE246.out)⟩)
                      ·skip
                       refine box_step ?hg (N := 17) ?hd (cs := #[.int .i64 0, .int .i64 0]) (t := 23) ?hr ?_; (case hd => rfl); (case hg => rfl); (case hr => first | (go_simp; done) | (go_simp; rfl))
                       intro gb246 hg w85 hbox hb
                       have HS3_ := (hb.cell (World.block_lt_of_cell? _ _ (hHeld.2.2.2.1))).trans (hHeld.2.2.2.1)
                       have HS4_ := (hb.cell (World.block_lt_of_cell? _ _ (hHeld.2.2.2.2))).trans (hHeld.2.2.2.2)
                       have n0_ := Aside0.mk (Kd.R_below (br HO_14.out) hb)
                       have n1_ := Aside0.mk (blk_below (bk BK220.out) hb)
                       have n2_ := Aside0.mk (blk_below (bk BK221.out) hb)
                       have n3_ := Aside0.mk (blk_below (bk BK222.out) hb)
                       have n4_ := Aside0.mk (blk_below (bk BK227.out) hb)
                       have n5_ := Aside0.mk (blk_below (bk BK228.out) hb)
                       have n6_ := Aside0.mk (below_step (q3 HB.out GE220.out GE221.out GE222.out GE227.out GE228.out) hb)
                       have n7_ := Aside0.mk (hbox)
                       have n8_ := Aside0.mk ((by rw [hg]; exact (below_size (q3 HB.out GE220.out GE221.out GE222.out GE227.out GE228.out)) : w.heap.size ≤ gb246))
                       have n9_ := Aside0.mk ((by rw [hg]; exact (below_size (q3 HB.out GE220.out GE221.out GE222.out GE227.out GE228.out)) : w.heap.size ≤ gb246))
                       have n10_ := Aside0.mk ((by rw [hg]; exact Nat.ne_of_lt (blk_lt (g := gb220) (o := .cells #[.int .i64 a0_0] 27 (0, 0)) (bk BK220.out)) : gb220 ≠ gb246))
                       have n11_ := Aside0.mk ((by rw [hg]; exact Nat.ne_of_gt (blk_lt (g := gb220) (o := .cells #[.int .i64 a0_0] 27 (0, 0)) (bk BK220.out)) : gb246 ≠ gb220))
                       have n12_ := Aside0.mk ((by rw [hg]; exact Nat.ne_of_lt (blk_lt (g := gb221) (o := .cells #[.int .i64 a1_0, .int .i64 a1_1] 23 (0, 0)) (bk BK221.out)) : gb221 ≠ gb246))
                       have n13_ := Aside0.mk ((by rw [hg]; exact Nat.ne_of_gt (blk_lt (g := gb221) (o := .cells #[.int .i64 a1_0, .int .i64 a1_1] 23 (0, 0)) (bk BK221.out)) : gb246 ≠ gb221))
                       have n14_ := Aside0.mk ((by rw [hg]; exact Nat.ne_of_lt (blk_lt (g := gb222) (o := .cells #[.int .i64 a2_0, .int .i64 a2_1] 23 (0, 0)) (bk BK222.out)) : gb222 ≠ gb246))
                       have n15_ := Aside0.mk ((by rw [hg]; exact Nat.ne_of_gt (blk_lt (g := gb222) (o := .cells #[.int .i64 a2_0, .int .i64 a2_1] 23 (0, 0)) (bk BK222.out)) : gb246 ≠ gb222))
                       have n16_ := Aside0.mk ((by rw [hg]; exact Nat.ne_of_lt (blk_lt (g := gb227) (o := .cells #[.int .i64 t223, .int .i64 t224] 25 (0, 0)) (bk BK227.out)) : gb227 ≠ gb246))
                       have n17_ := Aside0.mk ((by rw [hg]; exact Nat.ne_of_gt (blk_lt (g := gb227) (o := .cells #[.int .i64 t223, .int .i64 t224] 25 (0, 0)) (bk BK227.out)) : gb246 ≠ gb227))
                       have n18_ := Aside0.mk ((by rw [hg]; exact Nat.ne_of_lt (blk_lt (g := gb228) (o := .cells #[.int .i64 (wrap64 (t223 + x11_1)), .int .i64 (wrap64 (t224 + x12_3))] 25 (0, 0)) (bk BK228.out)) : gb228 ≠ gb246))
                       have n19_ := Aside0.mk ((by rw [hg]; exact Nat.ne_of_gt (blk_lt (g := gb228) (o := .cells #[.int .i64 (wrap64 (t223 + x11_1)), .int .i64 (wrap64 (t224 + x12_3))] 25 (0, 0)) (bk BK228.out)) : gb246 ≠ gb228))
                       clear HO_14
                       clear BK220
                       clear BK221
                       clear BK222
                       clear BK227
                       clear BK228
                       clear HB
                       have HO_14 := n0_
                       have BK220 := n1_
                       have BK221 := n2_
                       have BK222 := n3_
                       have BK227 := n4_
                       have BK228 := n5_
                       have HB := n6_
                       have BK246 := n7_
                       have GW246 := n8_
                       have GE246 := n9_
                       have NB220_246 := n10_
                       have NB246_220 := n11_
                       have NB221_246 := n12_
                       have NB246_221 := n13_
                       have NB222_246 := n14_
                       have NB246_222 := n15_
                       have NB227_246 := n16_
                       have NB246_227 := n17_
                       have NB228_246 := n18_
                       have NB246_228 := n19_
                       clear n0_ n1_ n2_ n3_ n4_ n5_ n6_ n7_ n8_ n9_ n10_ n11_ n12_ n13_ n14_ n15_ n16_ n17_ n18_ n19_
                       clear hb hbox hg
                       refine hK.out _ _ ⟨bc BK220 0, bc BK222 0, bc BK222 1, HS3_, HS4_⟩ (fun hHeld => ?_)
                       clear hK K
                       refine norm_ (a' := ?_) ?_ ?_
                       rotate_left
                       ·show Act.put _ (some 17) _ = _
                        simp only [Act.put, List.setIfInBounds_toArray, List.set_cons_zero, List.set_cons_succ, i64_w, i32_w]
                        rfl
                       refine one_ (i := 7) (N := some 109) #[true, true, true, true, true, true, true, true, false, false, false, true, false, false] rfl rfl (one_of HT_.out (by kernel_rfl)) (by decide) (fun K hK => ?_)
                       refine goes_ Try.func59 (by kernel_rfl) rfl #[.agg #[.int .i64 a0_0], .agg #[.int .i64 ((rd_T25 y237 x15_5).f0), .int .i64 ((rd_T25 y237 x15_5).f1)], .int .i64 a2_0] (by rfl) rfl rfl (by (try simp only [List.map_toArray, List.map_cons, List.map_nil]); first | done | rfl | (simp only [List.length_drop, List.length_take]; rfl)) ?_
                       with_reducible refine (path_At.calls kj47 a0_0 ((rd_T25 y237 x15_5).f0) ((rd_T25 y237 x15_5).f1) a2_0 t243 t244 t245 _ A60.out).mono ?_
                       rintro e w86 ⟨rfl, hb⟩
                       have HS3_ := (hb.cell (World.block_lt_of_cell? _ _ (hHeld.2.2.2.1))).trans (hHeld.2.2.2.1)
                       have HS4_ := (hb.cell (World.block_lt_of_cell? _ _ (hHeld.2.2.2.2))).trans (hHeld.2.2.2.2)
                       refine ⟨_, rfl, ?_⟩
                       have n0_ := Aside0.mk (Kd.R_below (br HO_14.out) hb)
                       have n1_ := Aside0.mk (blk_below (bk BK220.out) hb)
                       have n2_ := Aside0.mk (blk_below (bk BK221.out) hb)
                       have n3_ := Aside0.mk (blk_below (bk BK222.out) hb)
                       have n4_ := Aside0.mk (blk_below (bk BK227.out) hb)
                       have n5_ := Aside0.mk (blk_below (bk BK228.out) hb)
                       have n6_ := Aside0.mk (blk_below (bk BK246.out) hb)
                       have n7_ := Aside0.mk (below_step (q4 HB.out GE220.out GE221.out GE222.out GE227.out GE228.out GE246.out) hb)
                       clear HO_14
                       clear BK220
                       clear BK221
                       clear BK222
                       clear BK227
                       clear BK228
                       clear BK246
                       clear HB
                       have HO_14 := n0_
                       have BK220 := n1_
                       have BK221 := n2_
                       have BK222 := n3_
                       have BK227 := n4_
                       have BK228 := n5_
                       have BK246 := n6_
                       have HB := n7_
                       clear n0_ n1_ n2_ n3_ n4_ n5_ n6_ n7_
                       (try clear hb)
                       (try clear hb2)
                       (try clear hk)
                       (try clear hi)
                       refine hK.out _ _ ⟨bc BK220 0, bc BK222 0, bc BK222 1, HS3_, HS4_⟩ (fun hHeld => ?_)
                       clear hK K
                       refine norm_ (a' := ?_) ?_ ?_
                       rotate_left
                       ·show Act.put _ (some 109) _ = _
                        simp only [Act.put, List.setIfInBounds_toArray, List.set_cons_zero, List.set_cons_succ, i64_w, i32_w]
                        rfl
                       refine pure_ (i := 8) (N := some 101) (v := ?_) (a' := ?_) #[true, true, true, true, true, true, true, true, true, false, false, true, false, false] rfl rfl (any_of HT_.out (by kernel_rfl)) (fun _ _ _ h => h) (Or.inl ⟨by rfl, ?_⟩) ?_ ?_
                       rotate_left
                       ·intro w'
                        go_simp
                        with_reducible rfl
                       rotate_left
                       ·simp only [Act.put, List.setIfInBounds_toArray, List.set_cons_zero, List.set_cons_succ, i64_w, i32_w]
                        rfl
                       refine pure_ (i := 9) (N := some 110) (v := ?_) (a' := ?_) #[true, true, true, true, true, true, true, true, true, true, false, true, false, false] rfl rfl (any_of HT_.out (by kernel_rfl)) (fun _ _ _ h => h) (Or.inl ⟨by rfl, ?_⟩) ?_ ?_
                       rotate_left
                       ·intro w'
                        go_simp
                        with_reducible rfl
                       rotate_left
                       ·simp only [Act.put, List.setIfInBounds_toArray, List.set_cons_zero, List.set_cons_succ, i64_w, i32_w]
                        rfl
                       refine pure_ (i := 10) (N := some 111) (v := ?_) (a' := ?_) #[true, true, true, true, true, true, true, true, true, true, true, true, false, false] rfl rfl (any_of HT_.out (by kernel_rfl)) (fun _ _ _ h => h) (Or.inl ⟨by rfl, ?_⟩) ?_ ?_
                       rotate_left
                       ·intro w'
                        go_simp
                        with_reducible rfl
                       rotate_left
                       ·simp only [Act.put, List.setIfInBounds_toArray, List.set_cons_zero, List.set_cons_succ, i64_w, i32_w]
                        rfl
                       exact norm_ (by simp only [putAll, Act.put, List.setIfInBounds_toArray, List.set_cons_zero, List.set_cons_succ]) (hCont (gb246) _ ⟨hHeld, (br HO_14.out), (bk BK220.out), (bk BK221.out), (bk BK222.out), (bk BK227.out), (bk BK228.out), (bk BK246.out), GW246.out, GE246.out, NB220_246.out, NB246_220.out, NB221_246.out, NB246_221.out, NB222_246.out, NB246_222.out, NB227_246.out, NB246_227.out, NB228_246.out, NB246_228.out, (q4 HB.out GE220.out GE221.out GE222.out GE227.out GE228.out GE246.out)⟩)
                     rintro gb246 w87 ⟨hS_, h0_, h1_, h2_, h3_, h4_, h5_, h6_, h7_, h8_, h9_, h10_, h11_, h12_, h13_, h14_, h15_, h16_, h17_, h18_, h19_⟩
                     have n0_ : Aside0 (Kd.R k25 25 w87 w.heap.size (fun k_ => k_ ≠ gb227 ∧ k_ ≠ gb228) (.slice (some ad242) y237.length co84) y237) := ⟨h0_⟩
                     have n1_ : Aside0 (w87.heap[gb220]? = some (.cells #[.int .i64 a0_0] 27 (0, 0))) := ⟨h1_⟩
                     have n2_ : Aside0 (w87.heap[gb221]? = some (.cells #[.int .i64 a1_0, .int .i64 a1_1] 23 (0, 0))) := ⟨h2_⟩
                     have n3_ : Aside0 (w87.heap[gb222]? = some (.cells #[.int .i64 a2_0, .int .i64 a2_1] 23 (0, 0))) := ⟨h3_⟩
                     have n4_ : Aside0 (w87.heap[gb227]? = some (.cells #[.int .i64 t223, .int .i64 t224] 25 (0, 0))) := ⟨h4_⟩
                     have n5_ : Aside0 (w87.heap[gb228]? = some (.cells #[.int .i64 (wrap64 (t223 + x11_1)), .int .i64 (wrap64 (t224 + x12_3))] 25 (0, 0))) := ⟨h5_⟩
                     have n6_ : Aside0 (w87.heap[gb246]? = some (.cells #[.int .i64 0, .int .i64 0] 23 (0, 0))) := ⟨h6_⟩
                     have n7_ : Aside0 (w.heap.size ≤ gb246) := ⟨h7_⟩
                     have n8_ : Aside0 (w.heap.size ≤ gb246) := ⟨h8_⟩
                     have n9_ : Aside0 (gb220 ≠ gb246) := ⟨h9_⟩
                     have n10_ : Aside0 (gb246 ≠ gb220) := ⟨h10_⟩
                     have n11_ : Aside0 (gb221 ≠ gb246) := ⟨h11_⟩
                     have n12_ : Aside0 (gb246 ≠ gb221) := ⟨h12_⟩
                     have n13_ : Aside0 (gb222 ≠ gb246) := ⟨h13_⟩
                     have n14_ : Aside0 (gb246 ≠ gb222) := ⟨h14_⟩
                     have n15_ : Aside0 (gb227 ≠ gb246) := ⟨h15_⟩
                     have n16_ : Aside0 (gb246 ≠ gb227) := ⟨h16_⟩
                     have n17_ : Aside0 (gb228 ≠ gb246) := ⟨h17_⟩
                     have n18_ : Aside0 (gb246 ≠ gb228) := ⟨h18_⟩
                     have n19_ : Aside0 (Below w.heap.size w w87) := ⟨h19_⟩
                     clear HO_14
                     clear BK220
                     clear BK221
                     clear BK222
                     clear BK227
                     clear BK228
                     clear HB
                     clear h0_ h1_ h2_ h3_ h4_ h5_ h6_ h7_ h8_ h9_ h10_ h11_ h12_ h13_ h14_ h15_ h16_ h17_ h18_ h19_
                     have HO_14 := n0_
                     have BK220 := n1_
                     have BK221 := n2_
                     have BK222 := n3_
                     have BK227 := n4_
                     have BK228 := n5_
                     have BK246 := n6_
                     have GW246 := n7_
                     have GE246 := n8_
                     have NB220_246 := n9_
                     have NB246_220 := n10_
                     have NB221_246 := n11_
                     have NB246_221 := n12_
                     have NB222_246 := n13_
                     have NB246_222 := n14_
                     have NB227_246 := n15_
                     have NB246_227 := n16_
                     have NB228_246 := n17_
                     have NB246_228 := n18_
                     have HB := n19_
                     clear n0_ n1_ n2_ n3_ n4_ n5_ n6_ n7_ n8_ n9_ n10_ n11_ n12_ n13_ n14_ n15_ n16_ n17_ n18_ n19_
                     have hHeld : w87.cell? ⟨gb220, 0, none⟩ = some (.int .i64 a0_0) ∧ w87.cell? ⟨gb222, 0, none⟩ = some (.int .i64 a2_0) ∧ w87.cell? ⟨gb222, 1, none⟩ = some (.int .i64 a2_1) ∧ w87.cell? (ad242.add ((x15_5).toNat * 2)) = some (.int .i64 ((rd_T25 y237 x15_5).f0)) ∧ w87.cell? ⟨(ad242.add ((x15_5).toNat * 2)).block, (ad242.add ((x15_5).toNat * 2)).off + 1, none⟩ = some (.int .i64 ((rd_T25 y237 x15_5).f1)) := hS_
                     refine norm_ (a' := ?_) ?_ ?_
                     rotate_left
                     ·simp only [putAll, Act.put, List.setIfInBounds_toArray, List.set_cons_zero, List.set_cons_succ]
                      rfl
                     refine one_ (i := 12) (N := none) #[true, true, true, true, true, true, true, true, true, true, true, true, true, false] rfl rfl (one_of HT_.out (by kernel_rfl)) (by decide) (fun K hK => ?_)
                     have hs88 : w87.cell? ⟨gb246, 0, none⟩ = some (.int .i64 0) := bc BK246 0
                     have hfs88 := blk_frozen BK246.out 0
                     have hns88_0 := NB220_246.out
                     have hns88_1 := NB221_246.out
                     have hns88_2 := NB222_246.out
                     have hns88_3 := NB227_246.out
                     have hns88_4 := NB228_246.out
                     have hms88_0 := NB246_220.out
                     have hms88_1 := NB246_221.out
                     have hms88_2 := NB246_222.out
                     have hms88_3 := NB246_227.out
                     have hms88_4 := NB246_228.out
                     have hs89 : w87.cell? ⟨gb246, 1, none⟩ = some (.int .i64 0) := bc BK246 1
                     have hfs89 := blk_frozen BK246.out 1
                     have hns89_0 := NB220_246.out
                     have hns89_1 := NB221_246.out
                     have hns89_2 := NB222_246.out
                     have hns89_3 := NB227_246.out
                     have hns89_4 := NB228_246.out
                     have hms89_0 := NB246_220.out
                     have hms89_1 := NB246_221.out
                     have hms89_2 := NB246_222.out
                     have hms89_3 := NB246_227.out
                     have hms89_4 := NB246_228.out
                     refine skip_ (w1 := ?_) (by rfl) rfl ?_ ?_
                     rotate_left
                     ·go_simp
                      rfl
                     refine hK.out _ _ ⟨((cell_far (p := ⟨gb246, _, none⟩) NB220_246.out _).trans (((cell_far (p := ⟨gb246, _, none⟩) NB220_246.out _).trans (hHeld.1)))), ((cell_far (p := ⟨gb246, _, none⟩) NB222_246.out _).trans (((cell_far (p := ⟨gb246, _, none⟩) NB222_246.out _).trans (hHeld.2.1)))), ((cell_far (p := ⟨gb246, _, none⟩) NB222_246.out _).trans (((cell_far (p := ⟨gb246, _, none⟩) NB222_246.out _).trans (hHeld.2.2.1)))), ((cell_far (p := ⟨gb246, _, none⟩) (by first | exact Kd.own_blk (Kd.R_ne HO_14.out BK246.out (by decide)) | (rw [add_block]; exact Kd.own_blk (Kd.R_ne HO_14.out BK246.out (by decide))) | (show (Addr.add _ _).block ≠ _; rw [add_block]; exact Kd.own_blk (Kd.R_ne HO_14.out BK246.out (by decide))) | (dsimp only; exact Kd.own_blk (Kd.R_ne HO_14.out BK246.out (by decide)))) _).trans (((cell_far (p := ⟨gb246, _, none⟩) (by first | exact Kd.own_blk (Kd.R_ne HO_14.out BK246.out (by decide)) | (rw [add_block]; exact Kd.own_blk (Kd.R_ne HO_14.out BK246.out (by decide))) | (show (Addr.add _ _).block ≠ _; rw [add_block]; exact Kd.own_blk (Kd.R_ne HO_14.out BK246.out (by decide))) | (dsimp only; exact Kd.own_blk (Kd.R_ne HO_14.out BK246.out (by decide)))) _).trans (hHeld.2.2.2.1)))), ((cell_far (p := ⟨gb246, _, none⟩) (by first | exact Kd.own_blk (Kd.R_ne HO_14.out BK246.out (by decide)) | (rw [add_block]; exact Kd.own_blk (Kd.R_ne HO_14.out BK246.out (by decide))) | (show (Addr.add _ _).block ≠ _; rw [add_block]; exact Kd.own_blk (Kd.R_ne HO_14.out BK246.out (by decide))) | (dsimp only; exact Kd.own_blk (Kd.R_ne HO_14.out BK246.out (by decide)))) _).trans (((cell_far (p := ⟨gb246, _, none⟩) (by first | exact Kd.own_blk (Kd.R_ne HO_14.out BK246.out (by decide)) | (rw [add_block]; exact Kd.own_blk (Kd.R_ne HO_14.out BK246.out (by decide))) | (show (Addr.add _ _).block ≠ _; rw [add_block]; exact Kd.own_blk (Kd.R_ne HO_14.out BK246.out (by decide))) | (dsimp only; exact Kd.own_blk (Kd.R_ne HO_14.out BK246.out (by decide)))) _).trans (hHeld.2.2.2.2))))⟩ (fun hHeld => ?_)
                     clear hK K
                     refine pure_ (i := 13) (N := some 18) (v := ?_) (a' := ?_) #[true, true, true, true, true, true, true, true, true, true, true, true, true, true] rfl rfl (any_of HT_.out (by kernel_rfl)) (fun _ _ _ h => h) (Or.inl ⟨by rfl, ?_⟩) ?_ ?_
                     rotate_left
                     ·intro w'
                      go_simp
                      with_reducible rfl
                     rotate_left
                     ·simp only [Act.put, List.setIfInBounds_toArray, List.set_cons_zero, List.set_cons_succ, i64_w, i32_w]
                      rfl
                     refine done_ (done_of HT_.out (by kernel_rfl)) ?_
                     try go_wp2_with (first | ((with_reducible refine gate_callee (f := 78) rfl ?_); refine goesL_ (some 113) rfl rfl Try.func78 (by kernel_rfl) rfl #[.int .i64 t245] rfl (by (try simp only [List.map_toArray, List.map_cons, List.map_nil]); first | done | rfl | (simp only [List.length_drop, List.length_take]; rfl)) ?_; (with_reducible refine (glebelaw06_num.calls t245 t247 _ A61.out).mono ?_); rintro e w' ⟨rfl, ⟨nd, rfl⟩⟩; refine ⟨_, rfl, ?_⟩; have hnb90 := NB246_220.out; have hnc90 := NB220_246.out; have hnb91 := NB246_221.out; have hnc91 := NB221_246.out; have hnb92 := NB246_222.out; have hnc92 := NB222_246.out; have hnb93 := NB246_227.out; have hnc93 := NB227_246.out; have hnb94 := NB246_228.out; have hnc94 := NB228_246.out; have hcz95_0 : w87.cell? ⟨gb246, 0, none⟩ = some (.int .i64 0) := bc BK246 0; have hcz95_1 : w87.cell? ⟨gb246, 1, none⟩ = some (.int .i64 0) := bc BK246 1; have hfz95_0 := blk_frozen BK246.out 0; have hfz95_1 := blk_frozen BK246.out 1; have hnb96 := NB222_220.out; have hnc96 := NB220_222.out; have hnb97 := NB222_221.out; have hnc97 := NB221_222.out; have hnb98 := NB222_227.out; have hnc98 := NB227_222.out; have hnb99 := NB222_228.out; have hnc99 := NB228_222.out; have hcz100_0 : w87.cell? ⟨gb222, 0, none⟩ = some (.int .i64 a2_0) := bc BK222 0; have hcz100_1 : w87.cell? ⟨gb222, 1, none⟩ = some (.int .i64 a2_1) := bc BK222 1; have hfz100_0 := blk_frozen BK222.out 0; have hfz100_1 := blk_frozen BK222.out 1))
                     go_roundg kj47
                     case measure => have := HK1.out; have := HJ18.out; have := HK3.out; have := HJ21.out; have := HK5.out; have := HJ47.out; omega
                     case rel => exact ⟨(wrap64 (x10_5 + 1)), (wrap64 (x15_5 + 1)), (by first | rfl | (simp; done) | (simp [*]; done)), (by first | rfl | (simp; done) | (simp [*]; done)), H', ⟨by have := HK1.out; have := HJ18.out; have := HK3.out; have := HJ21.out; have := HK5.out; have := HJ47.out; omega⟩, ⟨by (with_reducible repeat (first | apply Kd.R_alloc | apply Kd.R_drewN | apply Kd.R_drew)); exact Kd.R_mono (Kd.R_far (p := ⟨gb246, 1, none⟩) (Kd.R_far (p := ⟨gb246, 0, none⟩) (Kd.R_types HO_14.out BK246.out (by decide)) (fun _ hk => hk.2) (.int .i64 t243)) (fun _ hk => hk.2) (.int .i64 t244)) (fun _ hk => ⟨hk.1.1, hk.1.2⟩)⟩, ⟨(bp1 BK220.out NB220_246.out)⟩, ⟨(bp1 BK221.out NB221_246.out)⟩, ⟨(bp1 BK222.out NB222_246.out)⟩, ⟨(bp1 BK227.out NB227_246.out)⟩, ⟨(bp1 BK228.out NB228_246.out)⟩, ⟨by exact q4 HB.out GE220.out GE221.out GE222.out GE227.out GE228.out GE246.out⟩⟩
                   ·rw [if_neg c63] at H
                    have c63b0 : (t243 == a2_0 && (t244 == a2_1)) = false := by simpa using c63
                    (try (have c63b1 : decide (t243 = a2_0 && (t244 == a2_1)) = false := by simpa using c63))
                    (try (have c63b2 : (t243 == a2_0 && (t244 == a2_1)) = false := by simpa using c63))
                    (try (have c63b3 : ¬ (t243 = a2_0 && (t244 == a2_1)) := by simpa using c63))
                    clear c63
                    have H' := Aside0.mk H
                    clear H
                    try go_wp2
                    have n0_ := Aside0.mk (Kd.R_drew HO_14.out)
                    have n1_ := Aside0.mk (blk_drew BK220.out)
                    have n2_ := Aside0.mk (blk_drew BK221.out)
                    have n3_ := Aside0.mk (blk_drew BK222.out)
                    have n4_ := Aside0.mk (blk_drew BK227.out)
                    have n5_ := Aside0.mk (blk_drew BK228.out)
                    have n6_ := Aside0.mk (below_drew1 HB.out)
                    clear HO_14
                    clear BK220
                    clear BK221
                    clear BK222
                    clear BK227
                    clear BK228
                    clear HB
                    have HO_14 := n0_
                    have BK220 := n1_
                    have BK221 := n2_
                    have BK222 := n3_
                    have BK227 := n4_
                    have BK228 := n5_
                    have HB := n6_
                    clear n0_ n1_ n2_ n3_ n4_ n5_ n6_
                    obtain ⟨Ao102, co102, eo102⟩ := Kd.R_slice HO_14.out
                    (first | subst eo102 | (injection eo102 with f1_ f2_ f3_; have f4_ := f1_.symm; have f5_ := f3_.symm; clear f1_ f2_ f3_; subst f4_; subst f5_))
                    have p242 : 0 ≤ (x15_5 : Int) := of_decide_eq_true (by first | (with_reducible assumption) | assumption)
                    have q242 : x15_5 < (y237.length : Int) := of_decide_eq_true (by first | (with_reducible assumption) | assumption)
                    obtain ⟨ad242, e242, hx242_0, hx242_1⟩ := at_T25 (Kd.R_reads' HO_14.out).2.2 x15_5 p242 q242
                    cases e242
                    replace p242 := eq_true p242
                    replace q242 := eq_true q242
                    refine start_ (n := 14) (S := fun w' => w'.cell? ⟨gb220, 0, none⟩ = some (.int .i64 a0_0) ∧ w'.cell? ⟨gb222, 0, none⟩ = some (.int .i64 a2_0) ∧ w'.cell? ⟨gb222, 1, none⟩ = some (.int .i64 a2_1) ∧ w'.cell? (ad242.add ((x15_5).toNat * 2)) = some (.int .i64 ((rd_T25 y237 x15_5).f0)) ∧ w'.cell? ⟨(ad242.add ((x15_5).toNat * 2)).block, (ad242.add ((x15_5).toNat * 2)).off + 1, none⟩ = some (.int .i64 ((rd_T25 y237 x15_5).f1))) (ds := []) #[false, false, false, false, false, false, false, false, false, false, false, false, false, false] (by kernel_rfl) rfl rfl ⟨bc BK220 0, bc BK222 0, bc BK222 1, hx242_0, hx242_1⟩ (fun hHeld => ?_); refine with_tabW glebelaw06_cells.tab15 glebelaw06_cells.bits15 (fun HT_ HW_ => ?_)
                    generalize wc.drew = w101 at HO_14 BK220 BK221 BK222 BK227 BK228 HB hx242_0 hx242_1 hHeld ⊢
                    refine pure_ (i := 1) (N := some 103) (v := ?_) (a' := ?_) #[false, true, false, false, false, false, false, false, false, false, false, false, false, false] rfl rfl (any_of HT_.out (by kernel_rfl)) (fun _ _ _ h => h) (Or.inl ⟨by rfl, ?_⟩) ?_ ?_
                    rotate_left
                    ·intro w'
                     go_simp
                     with_reducible rfl
                    rotate_left
                    ·simp only [Act.put, List.setIfInBounds_toArray, List.set_cons_zero, List.set_cons_succ, i64_w, i32_w]
                     rfl
                    refine pure_ (i := 2) (N := some 104) (v := ?_) (a' := ?_) #[false, true, true, false, false, false, false, false, false, false, false, false, false, false] rfl rfl (any_of HT_.out (by kernel_rfl)) (fun _ _ _ h => h) (Or.inl ⟨by rfl, ?_⟩) ?_ ?_
                    rotate_left
                    ·intro w'
                     go_simp
                     with_reducible rfl
                    rotate_left
                    ·simp only [Act.put, List.setIfInBounds_toArray, List.set_cons_zero, List.set_cons_succ, i64_w, i32_w]
                     rfl
                    refine pure_ (i := 3) (N := some 105) (v := ?_) (a' := ?_) #[false, true, true, true, false, false, false, false, false, false, false, false, false, false] rfl rfl (any_of HT_.out (by kernel_rfl)) (fun _ _ _ h => h) (Or.inl ⟨by rfl, ?_⟩) ?_ ?_
                    rotate_left
                    ·intro w'
                     go_simp
                     with_reducible rfl
                    rotate_left
                    ·simp only [Act.put, List.setIfInBounds_toArray, List.set_cons_zero, List.set_cons_succ, i64_w, i32_w]
                     rfl
                    refine pure_ (i := 5) (N := some 107) (v := ?_) (a' := ?_) #[false, true, true, true, false, true, false, false, false, false, false, false, false, false] rfl rfl (any_of HT_.out (by kernel_rfl)) (fun _ _ _ h => h) (Or.inl ⟨by rfl, ?_⟩) ?_ ?_
                    rotate_left
                    ·intro w'
                     go_simp
                     with_reducible rfl
                    rotate_left
                    ·simp only [Act.put, List.setIfInBounds_toArray, List.set_cons_zero, List.set_cons_succ, i64_w, i32_w]
                     rfl
                    refine take_ (i := 0) (N := some 102) (v := ?_) (a' := ?_) #[true, true, true, true, false, true, false, false, false, false, false, false, false, false] rfl rfl (take_ofW HT_.out HW_.out (by kernel_rfl)) (fun _ _ _ h => h) (Or.inl ⟨by rfl, ?_⟩) hHeld ?_ ?_
                    rotate_left
                    ·rintro w' ⟨s0, s1, s2, s3, s4⟩
                     go_simp
                     with_reducible rfl
                    rotate_left
                    ·simp only [Act.put, List.setIfInBounds_toArray, List.set_cons_zero, List.set_cons_succ, i64_w, i32_w]
                     rfl
                    refine take_ (i := 4) (N := some 106) (v := ?_) (a' := ?_) #[true, true, true, true, true, true, false, false, false, false, false, false, false, false] rfl rfl (take_ofW HT_.out HW_.out (by kernel_rfl)) (fun _ _ _ h => h) (Or.inl ⟨by rfl, ?_⟩) hHeld ?_ ?_
                    rotate_left
                    ·rintro w' ⟨s0, s1, s2, s3, s4⟩
                     go_simp
                     with_reducible rfl
                    rotate_left
                    ·simp only [Act.put, List.setIfInBounds_toArray, List.set_cons_zero, List.set_cons_succ, i64_w, i32_w]
                     rfl
                    refine take_ (i := 6) (N := some 108) (v := ?_) (a' := ?_) #[true, true, true, true, true, true, true, false, false, false, false, false, false, false] rfl rfl (take_ofW HT_.out HW_.out (by kernel_rfl)) (fun _ _ _ h => h) (Or.inl ⟨by rfl, ?_⟩) hHeld ?_ ?_
                    rotate_left
                    ·rintro w' ⟨s0, s1, s2, s3, s4⟩
                     go_simp
                     with_reducible rfl
                    rotate_left
                    ·simp only [Act.put, List.setIfInBounds_toArray, List.set_cons_zero, List.set_cons_succ, i64_w, i32_w]
                     rfl
                    refine join_ (σ := Nat) 2 #[true, true, true, true, true, true, true, true, true, true, true, true, false, false] (fun s_ => [(109, .tuple #[.agg #[.int .i64 t243, .int .i64 t244], .int .i64 t245]), (17, .pointer (some ⟨s_, 0, none⟩)), (101, .tuple #[.agg #[.int .i64 t243, .int .i64 t244], .int .i64 t245]), (110, .agg #[.int .i64 t243, .int .i64 t244]), (111, .int .i64 t245)]) (fun s_ w' => (w'.cell? ⟨gb220, 0, none⟩ = some (.int .i64 a0_0) ∧ w'.cell? ⟨gb222, 0, none⟩ = some (.int .i64 a2_0) ∧ w'.cell? ⟨gb222, 1, none⟩ = some (.int .i64 a2_1) ∧ w'.cell? (ad242.add ((x15_5).toNat * 2)) = some (.int .i64 ((rd_T25 y237 x15_5).f0)) ∧ w'.cell? ⟨(ad242.add ((x15_5).toNat * 2)).block, (ad242.add ((x15_5).toNat * 2)).off + 1, none⟩ = some (.int .i64 ((rd_T25 y237 x15_5).f1))) ∧ (Kd.R k25 25 w' w.heap.size (fun k_ => k_ ≠ gb227 ∧ k_ ≠ gb228) (.slice (some ad242) y237.length co102) y237) ∧ (w'.heap[gb220]? = some (.cells #[.int .i64 a0_0] 27 (0, 0))) ∧ (w'.heap[gb221]? = some (.cells #[.int .i64 a1_0, .int .i64 a1_1] 23 (0, 0))) ∧ (w'.heap[gb222]? = some (.cells #[.int .i64 a2_0, .int .i64 a2_1] 23 (0, 0))) ∧ (w'.heap[gb227]? = some (.cells #[.int .i64 t223, .int .i64 t224] 25 (0, 0))) ∧ (w'.heap[gb228]? = some (.cells #[.int .i64 (wrap64 (t223 + x11_1)), .int .i64 (wrap64 (t224 + x12_3))] 25 (0, 0))) ∧ (w'.heap[s_]? = some (.cells #[.int .i64 0, .int .i64 0] 23 (0, 0))) ∧ (w.heap.size ≤ s_) ∧ (w.heap.size ≤ s_) ∧ (gb220 ≠ s_) ∧ (s_ ≠ gb220) ∧ (gb221 ≠ s_) ∧ (s_ ≠ gb221) ∧ (gb222 ≠ s_) ∧ (s_ ≠ gb222) ∧ (gb227 ≠ s_) ∧ (s_ ≠ gb227) ∧ (gb228 ≠ s_) ∧ (s_ ≠ gb228) ∧ (Below w.heap.size w w')) ?_ ?_
                    rotate_left
                    ·intro hCont
                     refine two_ (i := 7) (j := 11) (Ni := some 109) (Nj := some 17) #[true, true, true, true, true, true, true, true, false, false, false, false, false, false] #[true, true, true, true, true, true, true, false, false, false, false, true, false, false] rfl rfl rfl rfl (two_of HT_.out (by kernel_rfl)) (by decide) (by decide) (fun K hK => ?_) (fun K hK => ?_)
                     ·skip
                      refine goes_ Try.func59 (by kernel_rfl) rfl #[.agg #[.int .i64 a0_0], .agg #[.int .i64 ((rd_T25 y237 x15_5).f0), .int .i64 ((rd_T25 y237 x15_5).f1)], .int .i64 a2_0] (by rfl) rfl rfl (by (try simp only [List.map_toArray, List.map_cons, List.map_nil]); first | done | rfl | (simp only [List.length_drop, List.length_take]; rfl)) ?_
                      with_reducible refine (path_At.calls kj47 a0_0 ((rd_T25 y237 x15_5).f0) ((rd_T25 y237 x15_5).f1) a2_0 t243 t244 t245 _ A60.out).mono ?_
                      rintro e w103 ⟨rfl, hb⟩
                      have HS3_ := (hb.cell (World.block_lt_of_cell? _ _ (hHeld.2.2.2.1))).trans (hHeld.2.2.2.1)
                      have HS4_ := (hb.cell (World.block_lt_of_cell? _ _ (hHeld.2.2.2.2))).trans (hHeld.2.2.2.2)
                      refine ⟨_, rfl, ?_⟩
                      have n0_ := Aside0.mk (Kd.R_below (br HO_14.out) hb)
                      have n1_ := Aside0.mk (blk_below (bk BK220.out) hb)
                      have n2_ := Aside0.mk (blk_below (bk BK221.out) hb)
                      have n3_ := Aside0.mk (blk_below (bk BK222.out) hb)
                      have n4_ := Aside0.mk (blk_below (bk BK227.out) hb)
                      have n5_ := Aside0.mk (blk_below (bk BK228.out) hb)
                      have n6_ := Aside0.mk (below_step (q3 HB.out GE220.out GE221.out GE222.out GE227.out GE228.out) hb)
                      clear HO_14
                      clear BK220
                      clear BK221
                      clear BK222
                      clear BK227
                      clear BK228
                      clear HB
                      have HO_14 := n0_
                      have BK220 := n1_
                      have BK221 := n2_
                      have BK222 := n3_
                      have BK227 := n4_
                      have BK228 := n5_
                      have HB := n6_
                      clear n0_ n1_ n2_ n3_ n4_ n5_ n6_
                      (try clear hb)
                      (try clear hb2)
                      (try clear hk)
                      (try clear hi)
                      refine hK.out _ _ ⟨bc BK220 0, bc BK222 0, bc BK222 1, HS3_, HS4_⟩ (fun hHeld => ?_)
                      clear hK K
                      refine norm_ (a' := ?_) ?_ ?_
                      rotate_left
                      ·show Act.put _ (some 109) _ = _
                       simp only [Act.put, List.setIfInBounds_toArray, List.set_cons_zero, List.set_cons_succ, i64_w, i32_w]
                       rfl
                      refine pure_ (i := 8) (N := some 101) (v := ?_) (a' := ?_) #[true, true, true, true, true, true, true, true, true, false, false, false, false, false] rfl rfl (any_of HT_.out (by kernel_rfl)) (fun _ _ _ h => h) (Or.inl ⟨by rfl, ?_⟩) ?_ ?_
                      rotate_left
                      ·intro w'
                       go_simp
                       with_reducible rfl
                      rotate_left
                      ·simp only [Act.put, List.setIfInBounds_toArray, List.set_cons_zero, List.set_cons_succ, i64_w, i32_w]
                       rfl
                      refine pure_ (i := 9) (N := some 110) (v := ?_) (a' := ?_) #[true, true, true, true, true, true, true, true, true, true, false, false, false, false] rfl rfl (any_of HT_.out (by kernel_rfl)) (fun _ _ _ h => h) (Or.inl ⟨by rfl, ?_⟩) ?_ ?_
                      rotate_left
                      ·intro w'
                       go_simp
                       with_reducible rfl
                      rotate_left
                      ·simp only [Act.put, List.setIfInBounds_toArray, List.set_cons_zero, List.set_cons_succ, i64_w, i32_w]
                       rfl
                      refine pure_ (i := 10) (N := some 111) (v := ?_) (a' := ?_) #[true, true, true, true, true, true, true, true, true, true, true, false, false, false] rfl rfl (any_of HT_.out (by kernel_rfl)) (fun _ _ _ h => h) (Or.inl ⟨by rfl, ?_⟩) ?_ ?_
                      rotate_left
                      ·intro w'
                       go_simp
                       with_reducible rfl
                      rotate_left
                      ·simp only [Act.put, List.setIfInBounds_toArray, List.set_cons_zero, List.set_cons_succ, i64_w, i32_w]
                       rfl
                      refine one_ (i := 11) (N := some 17) #[true, true, true, true, true, true, true, true, true, true, true, true, false, false] rfl rfl (one_of HT_.out (by kernel_rfl)) (by decide) (fun K hK => ?_)
                      refine box_step ?hg (N := 17) ?hd (cs := #[.int .i64 0, .int .i64 0]) (t := 23) ?hr ?_; (case hd => rfl); (case hg => rfl); (case hr => first | (go_simp; done) | (go_simp; rfl))
                      intro gb246 hg w104 hbox hb
                      have HS3_ := (hb.cell (World.block_lt_of_cell? _ _ (hHeld.2.2.2.1))).trans (hHeld.2.2.2.1)
                      have HS4_ := (hb.cell (World.block_lt_of_cell? _ _ (hHeld.2.2.2.2))).trans (hHeld.2.2.2.2)
                      have n0_ := Aside0.mk (Kd.R_below (br HO_14.out) hb)
                      have n1_ := Aside0.mk (blk_below (bk BK220.out) hb)
                      have n2_ := Aside0.mk (blk_below (bk BK221.out) hb)
                      have n3_ := Aside0.mk (blk_below (bk BK222.out) hb)
                      have n4_ := Aside0.mk (blk_below (bk BK227.out) hb)
                      have n5_ := Aside0.mk (blk_below (bk BK228.out) hb)
                      have n6_ := Aside0.mk (below_step (q3 HB.out GE220.out GE221.out GE222.out GE227.out GE228.out) hb)
                      have n7_ := Aside0.mk (hbox)
                      have n8_ := Aside0.mk ((by rw [hg]; exact (below_size (q3 HB.out GE220.out GE221.out GE222.out GE227.out GE228.out)) : w.heap.size ≤ gb246))
                      have n9_ := Aside0.mk ((by rw [hg]; exact (below_size (q3 HB.out GE220.out GE221.out GE222.out GE227.out GE228.out)) : w.heap.size ≤ gb246))
                      have n10_ := Aside0.mk ((by rw [hg]; exact Nat.ne_of_lt (blk_lt (g := gb220) (o := .cells #[.int .i64 a0_0] 27 (0, 0)) (bk BK220.out)) : gb220 ≠ gb246))
                      have n11_ := Aside0.mk ((by rw [hg]; exact Nat.ne_of_gt (blk_lt (g := gb220) (o := .cells #[.int .i64 a0_0] 27 (0, 0)) (bk BK220.out)) : gb246 ≠ gb220))
                      have n12_ := Aside0.mk ((by rw [hg]; exact Nat.ne_of_lt (blk_lt (g := gb221) (o := .cells #[.int .i64 a1_0, .int .i64 a1_1] 23 (0, 0)) (bk BK221.out)) : gb221 ≠ gb246))
                      have n13_ := Aside0.mk ((by rw [hg]; exact Nat.ne_of_gt (blk_lt (g := gb221) (o := .cells #[.int .i64 a1_0, .int .i64 a1_1] 23 (0, 0)) (bk BK221.out)) : gb246 ≠ gb221))
                      have n14_ := Aside0.mk ((by rw [hg]; exact Nat.ne_of_lt (blk_lt (g := gb222) (o := .cells #[.int .i64 a2_0, .int .i64 a2_1] 23 (0, 0)) (bk BK222.out)) : gb222 ≠ gb246))
                      have n15_ := Aside0.mk ((by rw [hg]; exact Nat.ne_of_gt (blk_lt (g := gb222) (o := .cells #[.int .i64 a2_0, .int .i64 a2_1] 23 (0, 0)) (bk BK222.out)) : gb246 ≠ gb222))
                      have n16_ := Aside0.mk ((by rw [hg]; exact Nat.ne_of_lt (blk_lt (g := gb227) (o := .cells #[.int .i64 t223, .int .i64 t224] 25 (0, 0)) (bk BK227.out)) : gb227 ≠ gb246))
                      have n17_ := Aside0.mk ((by rw [hg]; exact Nat.ne_of_gt (blk_lt (g := gb227) (o := .cells #[.int .i64 t223, .int .i64 t224] 25 (0, 0)) (bk BK227.out)) : gb246 ≠ gb227))
                      have n18_ := Aside0.mk ((by rw [hg]; exact Nat.ne_of_lt (blk_lt (g := gb228) (o := .cells #[.int .i64 (wrap64 (t223 + x11_1)), .int .i64 (wrap64 (t224 + x12_3))] 25 (0, 0)) (bk BK228.out)) : gb228 ≠ gb246))
                      have n19_ := Aside0.mk ((by rw [hg]; exact Nat.ne_of_gt (blk_lt (g := gb228) (o := .cells #[.int .i64 (wrap64 (t223 + x11_1)), .int .i64 (wrap64 (t224 + x12_3))] 25 (0, 0)) (bk BK228.out)) : gb246 ≠ gb228))
                      clear HO_14
                      clear BK220
                      clear BK221
                      clear BK222
                      clear BK227
                      clear BK228
                      clear HB
                      have HO_14 := n0_
                      have BK220 := n1_
                      have BK221 := n2_
                      have BK222 := n3_
                      have BK227 := n4_
                      have BK228 := n5_
                      have HB := n6_
                      have BK246 := n7_
                      have GW246 := n8_
                      have GE246 := n9_
                      have NB220_246 := n10_
                      have NB246_220 := n11_
                      have NB221_246 := n12_
                      have NB246_221 := n13_
                      have NB222_246 := n14_
                      have NB246_222 := n15_
                      have NB227_246 := n16_
                      have NB246_227 := n17_
                      have NB228_246 := n18_
                      have NB246_228 := n19_
                      clear n0_ n1_ n2_ n3_ n4_ n5_ n6_ n7_ n8_ n9_ n10_ n11_ n12_ n13_ n14_ n15_ n16_ n17_ n18_ n19_
                      clear hb hbox hg
                      refine hK.out _ _ ⟨bc BK220 0, bc BK222 0, bc BK222 1, HS3_, HS4_⟩ (fun hHeld => ?_)
                      clear hK K
                      refine norm_ (a' := ?_) ?_ ?_
                      rotate_left
                      ·show Act.put _ (some 17) _ = _
                       simp only [Act.put, List.setIfInBounds_toArray, List.set_cons_zero, List.set_cons_succ, i64_w, i32_w]
                       rfl
                      exact norm_ (by simp only [putAll, Act.put, List.setIfInBounds_toArray, List.set_cons_zero, List.set_cons_succ]) (hCont (gb246) _ ⟨hHeld, (br HO_14.out), (bk BK220.out), (bk BK221.out), (bk BK222.out), (bk BK227.out), (bk BK228.out), (bk BK246.out), GW246.out, GE246.out, NB220_246.out, NB246_220.out, NB221_246.out, NB246_221.out, NB222_246.out, NB246_222.out, NB227_246.out, NB246_227.out, NB228_246.out, NB246_228.out, (q4 HB.out GE220.out GE221.out GE222.out GE227.out GE228.out GE246.out)⟩)
                     ·skip
                      refine box_step ?hg (N := 17) ?hd (cs := #[.int .i64 0, .int .i64 0]) (t := 23) ?hr ?_; (case hd => rfl); (case hg => rfl); (case hr => first | (go_simp; done) | (go_simp; rfl))
                      intro gb246 hg w103 hbox hb
                      have HS3_ := (hb.cell (World.block_lt_of_cell? _ _ (hHeld.2.2.2.1))).trans (hHeld.2.2.2.1)
                      have HS4_ := (hb.cell (World.block_lt_of_cell? _ _ (hHeld.2.2.2.2))).trans (hHeld.2.2.2.2)
                      have n0_ := Aside0.mk (Kd.R_below (br HO_14.out) hb)
                      have n1_ := Aside0.mk (blk_below (bk BK220.out) hb)
                      have n2_ := Aside0.mk (blk_below (bk BK221.out) hb)
                      have n3_ := Aside0.mk (blk_below (bk BK222.out) hb)
                      have n4_ := Aside0.mk (blk_below (bk BK227.out) hb)
                      have n5_ := Aside0.mk (blk_below (bk BK228.out) hb)
                      have n6_ := Aside0.mk (below_step (q3 HB.out GE220.out GE221.out GE222.out GE227.out GE228.out) hb)
                      have n7_ := Aside0.mk (hbox)
                      have n8_ := Aside0.mk ((by rw [hg]; exact (below_size (q3 HB.out GE220.out GE221.out GE222.out GE227.out GE228.out)) : w.heap.size ≤ gb246))
                      have n9_ := Aside0.mk ((by rw [hg]; exact (below_size (q3 HB.out GE220.out GE221.out GE222.out GE227.out GE228.out)) : w.heap.size ≤ gb246))
                      have n10_ := Aside0.mk ((by rw [hg]; exact Nat.ne_of_lt (blk_lt (g := gb220) (o := .cells #[.int .i64 a0_0] 27 (0, 0)) (bk BK220.out)) : gb220 ≠ gb246))
                      have n11_ := Aside0.mk ((by rw [hg]; exact Nat.ne_of_gt (blk_lt (g := gb220) (o := .cells #[.int .i64 a0_0] 27 (0, 0)) (bk BK220.out)) : gb246 ≠ gb220))
                      have n12_ := Aside0.mk ((by rw [hg]; exact Nat.ne_of_lt (blk_lt (g := gb221) (o := .cells #[.int .i64 a1_0, .int .i64 a1_1] 23 (0, 0)) (bk BK221.out)) : gb221 ≠ gb246))
                      have n13_ := Aside0.mk ((by rw [hg]; exact Nat.ne_of_gt (blk_lt (g := gb221) (o := .cells #[.int .i64 a1_0, .int .i64 a1_1] 23 (0, 0)) (bk BK221.out)) : gb246 ≠ gb221))
                      have n14_ := Aside0.mk ((by rw [hg]; exact Nat.ne_of_lt (blk_lt (g := gb222) (o := .cells #[.int .i64 a2_0, .int .i64 a2_1] 23 (0, 0)) (bk BK222.out)) : gb222 ≠ gb246))
                      have n15_ := Aside0.mk ((by rw [hg]; exact Nat.ne_of_gt (blk_lt (g := gb222) (o := .cells #[.int .i64 a2_0, .int .i64 a2_1] 23 (0, 0)) (bk BK222.out)) : gb246 ≠ gb222))
                      have n16_ := Aside0.mk ((by rw [hg]; exact Nat.ne_of_lt (blk_lt (g := gb227) (o := .cells #[.int .i64 t223, .int .i64 t224] 25 (0, 0)) (bk BK227.out)) : gb227 ≠ gb246))
                      have n17_ := Aside0.mk ((by rw [hg]; exact Nat.ne_of_gt (blk_lt (g := gb227) (o := .cells #[.int .i64 t223, .int .i64 t224] 25 (0, 0)) (bk BK227.out)) : gb246 ≠ gb227))
                      have n18_ := Aside0.mk ((by rw [hg]; exact Nat.ne_of_lt (blk_lt (g := gb228) (o := .cells #[.int .i64 (wrap64 (t223 + x11_1)), .int .i64 (wrap64 (t224 + x12_3))] 25 (0, 0)) (bk BK228.out)) : gb228 ≠ gb246))
                      have n19_ := Aside0.mk ((by rw [hg]; exact Nat.ne_of_gt (blk_lt (g := gb228) (o := .cells #[.int .i64 (wrap64 (t223 + x11_1)), .int .i64 (wrap64 (t224 + x12_3))] 25 (0, 0)) (bk BK228.out)) : gb246 ≠ gb228))
                      clear HO_14
                      clear BK220
                      clear BK221
                      clear BK222
                      clear BK227
                      clear BK228
                      clear HB
                      have HO_14 := n0_
                      have BK220 := n1_
                      have BK221 := n2_
                      have BK222 := n3_
                      have BK227 := n4_
                      have BK228 := n5_
                      have HB := n6_
                      have BK246 := n7_
                      have GW246 := n8_
                      have GE246 := n9_
                      have NB220_246 := n10_
                      have NB246_220 := n11_
                      have NB221_246 := n12_
                      have NB246_221 := n13_
                      have NB222_246 := n14_
                      have NB246_222 := n15_
                      have NB227_246 := n16_
                      have NB246_227 := n17_
                      have NB228_246 := n18_
                      have NB246_228 := n19_
                      clear n0_ n1_ n2_ n3_ n4_ n5_ n6_ n7_ n8_ n9_ n10_ n11_ n12_ n13_ n14_ n15_ n16_ n17_ n18_ n19_
                      clear hb hbox hg
                      refine hK.out _ _ ⟨bc BK220 0, bc BK222 0, bc BK222 1, HS3_, HS4_⟩ (fun hHeld => ?_)
                      clear hK K
                      refine norm_ (a' := ?_) ?_ ?_
                      rotate_left
                      ·show Act.put _ (some 17) _ = _
                       simp only [Act.put, List.setIfInBounds_toArray, List.set_cons_zero, List.set_cons_succ, i64_w, i32_w]
                       rfl
                      refine one_ (i := 7) (N := some 109) #[true, true, true, true, true, true, true, true, false, false, false, true, false, false] rfl rfl (one_of HT_.out (by kernel_rfl)) (by decide) (fun K hK => ?_)
                      refine goes_ Try.func59 (by kernel_rfl) rfl #[.agg #[.int .i64 a0_0], .agg #[.int .i64 ((rd_T25 y237 x15_5).f0), .int .i64 ((rd_T25 y237 x15_5).f1)], .int .i64 a2_0] (by rfl) rfl rfl (by (try simp only [List.map_toArray, List.map_cons, List.map_nil]); first | done | rfl | (simp only [List.length_drop, List.length_take]; rfl)) ?_
                      with_reducible refine (path_At.calls kj47 a0_0 ((rd_T25 y237 x15_5).f0) ((rd_T25 y237 x15_5).f1) a2_0 t243 t244 t245 _ A60.out).mono ?_
                      rintro e w104 ⟨rfl, hb⟩
                      have HS3_ := (hb.cell (World.block_lt_of_cell? _ _ (hHeld.2.2.2.1))).trans (hHeld.2.2.2.1)
                      have HS4_ := (hb.cell (World.block_lt_of_cell? _ _ (hHeld.2.2.2.2))).trans (hHeld.2.2.2.2)
                      refine ⟨_, rfl, ?_⟩
                      have n0_ := Aside0.mk (Kd.R_below (br HO_14.out) hb)
                      have n1_ := Aside0.mk (blk_below (bk BK220.out) hb)
                      have n2_ := Aside0.mk (blk_below (bk BK221.out) hb)
                      have n3_ := Aside0.mk (blk_below (bk BK222.out) hb)
                      have n4_ := Aside0.mk (blk_below (bk BK227.out) hb)
                      have n5_ := Aside0.mk (blk_below (bk BK228.out) hb)
                      have n6_ := Aside0.mk (blk_below (bk BK246.out) hb)
                      have n7_ := Aside0.mk (below_step (q4 HB.out GE220.out GE221.out GE222.out GE227.out GE228.out GE246.out) hb)
                      clear HO_14
                      clear BK220
                      clear BK221
                      clear BK222
                      clear BK227
                      clear BK228
                      clear BK246
                      clear HB
                      have HO_14 := n0_
                      have BK220 := n1_
                      have BK221 := n2_
                      have BK222 := n3_
                      have BK227 := n4_
                      have BK228 := n5_
                      have BK246 := n6_
                      have HB := n7_
                      clear n0_ n1_ n2_ n3_ n4_ n5_ n6_ n7_
                      (try clear hb)
                      (try clear hb2)
                      (try clear hk)
                      (try clear hi)
                      refine hK.out _ _ ⟨bc BK220 0, bc BK222 0, bc BK222 1, HS3_, HS4_⟩ (fun hHeld => ?_)
                      clear hK K
                      refine norm_ (a' := ?_) ?_ ?_
                      rotate_left
                      ·show Act.put _ (some 109) _ = _
                       simp only [Act.put, List.setIfInBounds_toArray, List.set_cons_zero, List.set_cons_succ, i64_w, i32_w]
                       rfl
                      refine pure_ (i := 8) (N := some 101) (v := ?_) (a' := ?_) #[true, true, true, true, true, true, true, true, true, false, false, true, false, false] rfl rfl (any_of HT_.out (by kernel_rfl)) (fun _ _ _ h => h) (Or.inl ⟨by rfl, ?_⟩) ?_ ?_
                      rotate_left
                      ·intro w'
                       go_simp
                       with_reducible rfl
                      rotate_left
                      ·simp only [Act.put, List.setIfInBounds_toArray, List.set_cons_zero, List.set_cons_succ, i64_w, i32_w]
                       rfl
                      refine pure_ (i := 9) (N := some 110) (v := ?_) (a' := ?_) #[true, true, true, true, true, true, true, true, true, true, false, true, false, false] rfl rfl (any_of HT_.out (by kernel_rfl)) (fun _ _ _ h => h) (Or.inl ⟨by rfl, ?_⟩) ?_ ?_
                      rotate_left
                      ·intro w'
                       go_simp
                       with_reducible rfl
                      rotate_left
                      ·simp only [Act.put, List.setIfInBounds_toArray, List.set_cons_zero, List.set_cons_succ, i64_w, i32_w]
                       rfl
                      refine pure_ (i := 10) (N := some 111) (v := ?_) (a' := ?_) #[true, true, true, true, true, true, true, true, true, true, true, true, false, false] rfl rfl (any_of HT_.out (by kernel_rfl)) (fun _ _ _ h => h) (Or.inl ⟨by rfl, ?_⟩) ?_ ?_
                      rotate_left
                      ·intro w'
                       go_simp
                       with_reducible rfl
                      rotate_left
                      ·simp only [Act.put, List.setIfInBounds_toArray, List.set_cons_zero, List.set_cons_succ, i64_w, i32_w]
                       rfl
                      exact norm_ (by simp only [putAll, Act.put, List.setIfInBounds_toArray, List.set_cons_zero, List.set_cons_succ]) (hCont (gb246) _ ⟨hHeld, (br HO_14.out), (bk BK220.out), (bk BK221.out), (bk BK222.out), (bk BK227.out), (bk BK228.out), (bk BK246.out), GW246.out, GE246.out, NB220_246.out, NB246_220.out, NB221_246.out, NB246_221.out, NB222_246.out, NB246_222.out, NB227_246.out, NB246_227.out, NB228_246.out, NB246_228.out, (q4 HB.out GE220.out GE221.out GE222.out GE227.out GE228.out GE246.out)⟩)
                    rintro gb246 w105 ⟨hS_, h0_, h1_, h2_, h3_, h4_, h5_, h6_, h7_, h8_, h9_, h10_, h11_, h12_, h13_, h14_, h15_, h16_, h17_, h18_, h19_⟩
                    have n0_ : Aside0 (Kd.R k25 25 w105 w.heap.size (fun k_ => k_ ≠ gb227 ∧ k_ ≠ gb228) (.slice (some ad242) y237.length co102) y237) := ⟨h0_⟩
                    have n1_ : Aside0 (w105.heap[gb220]? = some (.cells #[.int .i64 a0_0] 27 (0, 0))) := ⟨h1_⟩
                    have n2_ : Aside0 (w105.heap[gb221]? = some (.cells #[.int .i64 a1_0, .int .i64 a1_1] 23 (0, 0))) := ⟨h2_⟩
                    have n3_ : Aside0 (w105.heap[gb222]? = some (.cells #[.int .i64 a2_0, .int .i64 a2_1] 23 (0, 0))) := ⟨h3_⟩
                    have n4_ : Aside0 (w105.heap[gb227]? = some (.cells #[.int .i64 t223, .int .i64 t224] 25 (0, 0))) := ⟨h4_⟩
                    have n5_ : Aside0 (w105.heap[gb228]? = some (.cells #[.int .i64 (wrap64 (t223 + x11_1)), .int .i64 (wrap64 (t224 + x12_3))] 25 (0, 0))) := ⟨h5_⟩
                    have n6_ : Aside0 (w105.heap[gb246]? = some (.cells #[.int .i64 0, .int .i64 0] 23 (0, 0))) := ⟨h6_⟩
                    have n7_ : Aside0 (w.heap.size ≤ gb246) := ⟨h7_⟩
                    have n8_ : Aside0 (w.heap.size ≤ gb246) := ⟨h8_⟩
                    have n9_ : Aside0 (gb220 ≠ gb246) := ⟨h9_⟩
                    have n10_ : Aside0 (gb246 ≠ gb220) := ⟨h10_⟩
                    have n11_ : Aside0 (gb221 ≠ gb246) := ⟨h11_⟩
                    have n12_ : Aside0 (gb246 ≠ gb221) := ⟨h12_⟩
                    have n13_ : Aside0 (gb222 ≠ gb246) := ⟨h13_⟩
                    have n14_ : Aside0 (gb246 ≠ gb222) := ⟨h14_⟩
                    have n15_ : Aside0 (gb227 ≠ gb246) := ⟨h15_⟩
                    have n16_ : Aside0 (gb246 ≠ gb227) := ⟨h16_⟩
                    have n17_ : Aside0 (gb228 ≠ gb246) := ⟨h17_⟩
                    have n18_ : Aside0 (gb246 ≠ gb228) := ⟨h18_⟩
                    have n19_ : Aside0 (Below w.heap.size w w105) := ⟨h19_⟩
                    clear HO_14
                    clear BK220
                    clear BK221
                    clear BK222
                    clear BK227
                    clear BK228
                    clear HB
                    clear h0_ h1_ h2_ h3_ h4_ h5_ h6_ h7_ h8_ h9_ h10_ h11_ h12_ h13_ h14_ h15_ h16_ h17_ h18_ h19_
                    have HO_14 := n0_
                    have BK220 := n1_
                    have BK221 := n2_
                    have BK222 := n3_
                    have BK227 := n4_
                    have BK228 := n5_
                    have BK246 := n6_
                    have GW246 := n7_
                    have GE246 := n8_
                    have NB220_246 := n9_
                    have NB246_220 := n10_
                    have NB221_246 := n11_
                    have NB246_221 := n12_
                    have NB222_246 := n13_
                    have NB246_222 := n14_
                    have NB227_246 := n15_
                    have NB246_227 := n16_
                    have NB228_246 := n17_
                    have NB246_228 := n18_
                    have HB := n19_
                    clear n0_ n1_ n2_ n3_ n4_ n5_ n6_ n7_ n8_ n9_ n10_ n11_ n12_ n13_ n14_ n15_ n16_ n17_ n18_ n19_
                    have hHeld : w105.cell? ⟨gb220, 0, none⟩ = some (.int .i64 a0_0) ∧ w105.cell? ⟨gb222, 0, none⟩ = some (.int .i64 a2_0) ∧ w105.cell? ⟨gb222, 1, none⟩ = some (.int .i64 a2_1) ∧ w105.cell? (ad242.add ((x15_5).toNat * 2)) = some (.int .i64 ((rd_T25 y237 x15_5).f0)) ∧ w105.cell? ⟨(ad242.add ((x15_5).toNat * 2)).block, (ad242.add ((x15_5).toNat * 2)).off + 1, none⟩ = some (.int .i64 ((rd_T25 y237 x15_5).f1)) := hS_
                    refine norm_ (a' := ?_) ?_ ?_
                    rotate_left
                    ·simp only [putAll, Act.put, List.setIfInBounds_toArray, List.set_cons_zero, List.set_cons_succ]
                     rfl
                    refine one_ (i := 12) (N := none) #[true, true, true, true, true, true, true, true, true, true, true, true, true, false] rfl rfl (one_of HT_.out (by kernel_rfl)) (by decide) (fun K hK => ?_)
                    have hs106 : w105.cell? ⟨gb246, 0, none⟩ = some (.int .i64 0) := bc BK246 0
                    have hfs106 := blk_frozen BK246.out 0
                    have hns106_0 := NB220_246.out
                    have hns106_1 := NB221_246.out
                    have hns106_2 := NB222_246.out
                    have hns106_3 := NB227_246.out
                    have hns106_4 := NB228_246.out
                    have hms106_0 := NB246_220.out
                    have hms106_1 := NB246_221.out
                    have hms106_2 := NB246_222.out
                    have hms106_3 := NB246_227.out
                    have hms106_4 := NB246_228.out
                    have hs107 : w105.cell? ⟨gb246, 1, none⟩ = some (.int .i64 0) := bc BK246 1
                    have hfs107 := blk_frozen BK246.out 1
                    have hns107_0 := NB220_246.out
                    have hns107_1 := NB221_246.out
                    have hns107_2 := NB222_246.out
                    have hns107_3 := NB227_246.out
                    have hns107_4 := NB228_246.out
                    have hms107_0 := NB246_220.out
                    have hms107_1 := NB246_221.out
                    have hms107_2 := NB246_222.out
                    have hms107_3 := NB246_227.out
                    have hms107_4 := NB246_228.out
                    refine skip_ (w1 := ?_) (by rfl) rfl ?_ ?_
                    rotate_left
                    ·go_simp
                     rfl
                    refine hK.out _ _ ⟨((cell_far (p := ⟨gb246, _, none⟩) NB220_246.out _).trans (((cell_far (p := ⟨gb246, _, none⟩) NB220_246.out _).trans (hHeld.1)))), ((cell_far (p := ⟨gb246, _, none⟩) NB222_246.out _).trans (((cell_far (p := ⟨gb246, _, none⟩) NB222_246.out _).trans (hHeld.2.1)))), ((cell_far (p := ⟨gb246, _, none⟩) NB222_246.out _).trans (((cell_far (p := ⟨gb246, _, none⟩) NB222_246.out _).trans (hHeld.2.2.1)))), ((cell_far (p := ⟨gb246, _, none⟩) (by first | exact Kd.own_blk (Kd.R_ne HO_14.out BK246.out (by decide)) | (rw [add_block]; exact Kd.own_blk (Kd.R_ne HO_14.out BK246.out (by decide))) | (show (Addr.add _ _).block ≠ _; rw [add_block]; exact Kd.own_blk (Kd.R_ne HO_14.out BK246.out (by decide))) | (dsimp only; exact Kd.own_blk (Kd.R_ne HO_14.out BK246.out (by decide)))) _).trans (((cell_far (p := ⟨gb246, _, none⟩) (by first | exact Kd.own_blk (Kd.R_ne HO_14.out BK246.out (by decide)) | (rw [add_block]; exact Kd.own_blk (Kd.R_ne HO_14.out BK246.out (by decide))) | (show (Addr.add _ _).block ≠ _; rw [add_block]; exact Kd.own_blk (Kd.R_ne HO_14.out BK246.out (by decide))) | (dsimp only; exact Kd.own_blk (Kd.R_ne HO_14.out BK246.out (by decide)))) _).trans (hHeld.2.2.2.1)))), ((cell_far (p := ⟨gb246, _, none⟩) (by first | exact Kd.own_blk (Kd.R_ne HO_14.out BK246.out (by decide)) | (rw [add_block]; exact Kd.own_blk (Kd.R_ne HO_14.out BK246.out (by decide))) | (show (Addr.add _ _).block ≠ _; rw [add_block]; exact Kd.own_blk (Kd.R_ne HO_14.out BK246.out (by decide))) | (dsimp only; exact Kd.own_blk (Kd.R_ne HO_14.out BK246.out (by decide)))) _).trans (((cell_far (p := ⟨gb246, _, none⟩) (by first | exact Kd.own_blk (Kd.R_ne HO_14.out BK246.out (by decide)) | (rw [add_block]; exact Kd.own_blk (Kd.R_ne HO_14.out BK246.out (by decide))) | (show (Addr.add _ _).block ≠ _; rw [add_block]; exact Kd.own_blk (Kd.R_ne HO_14.out BK246.out (by decide))) | (dsimp only; exact Kd.own_blk (Kd.R_ne HO_14.out BK246.out (by decide)))) _).trans (hHeld.2.2.2.2))))⟩ (fun hHeld => ?_)
                    clear hK K
                    refine pure_ (i := 13) (N := some 18) (v := ?_) (a' := ?_) #[true, true, true, true, true, true, true, true, true, true, true, true, true, true] rfl rfl (any_of HT_.out (by kernel_rfl)) (fun _ _ _ h => h) (Or.inl ⟨by rfl, ?_⟩) ?_ ?_
                    rotate_left
                    ·intro w'
                     go_simp
                     with_reducible rfl
                    rotate_left
                    ·simp only [Act.put, List.setIfInBounds_toArray, List.set_cons_zero, List.set_cons_succ, i64_w, i32_w]
                     rfl
                    refine done_ (done_of HT_.out (by kernel_rfl)) ?_
                    try go_wp2_with (first | ((with_reducible refine gate_callee (f := 78) rfl ?_); refine goesL_ (some 113) rfl rfl Try.func78 (by kernel_rfl) rfl #[.int .i64 t245] rfl (by (try simp only [List.map_toArray, List.map_cons, List.map_nil]); first | done | rfl | (simp only [List.length_drop, List.length_take]; rfl)) ?_; (with_reducible refine (glebelaw06_num.calls t245 t247 _ A61.out).mono ?_); rintro e w' ⟨rfl, ⟨nd, rfl⟩⟩; refine ⟨_, rfl, ?_⟩; have hnb108 := NB246_220.out; have hnc108 := NB220_246.out; have hnb109 := NB246_221.out; have hnc109 := NB221_246.out; have hnb110 := NB246_222.out; have hnc110 := NB222_246.out; have hnb111 := NB246_227.out; have hnc111 := NB227_246.out; have hnb112 := NB246_228.out; have hnc112 := NB228_246.out; have hcz113_0 : w105.cell? ⟨gb246, 0, none⟩ = some (.int .i64 0) := bc BK246 0; have hcz113_1 : w105.cell? ⟨gb246, 1, none⟩ = some (.int .i64 0) := bc BK246 1; have hfz113_0 := blk_frozen BK246.out 0; have hfz113_1 := blk_frozen BK246.out 1; have hnb114 := NB222_220.out; have hnc114 := NB220_222.out; have hnb115 := NB222_221.out; have hnc115 := NB221_222.out; have hnb116 := NB222_227.out; have hnc116 := NB227_222.out; have hnb117 := NB222_228.out; have hnc117 := NB228_222.out; have hcz118_0 : w105.cell? ⟨gb222, 0, none⟩ = some (.int .i64 a2_0) := bc BK222 0; have hcz118_1 : w105.cell? ⟨gb222, 1, none⟩ = some (.int .i64 a2_1) := bc BK222 1; have hfz118_0 := blk_frozen BK222.out 0; have hfz118_1 := blk_frozen BK222.out 1))
                    go_roundg kj47
                    case measure => have := HK1.out; have := HJ18.out; have := HK3.out; have := HJ21.out; have := HK5.out; have := HJ47.out; omega
                    case rel => exact ⟨(x10_5), (wrap64 (x15_5 + 1)), (by first | rfl | (simp; done) | (simp [*]; done)), (by first | rfl | (simp; done) | (simp [*]; done)), H', ⟨by have := HK1.out; have := HJ18.out; have := HK3.out; have := HJ21.out; have := HK5.out; have := HJ47.out; omega⟩, ⟨by (with_reducible repeat (first | apply Kd.R_alloc | apply Kd.R_drewN | apply Kd.R_drew)); exact Kd.R_mono (Kd.R_far (p := ⟨gb246, 1, none⟩) (Kd.R_far (p := ⟨gb246, 0, none⟩) (Kd.R_types HO_14.out BK246.out (by decide)) (fun _ hk => hk.2) (.int .i64 t243)) (fun _ hk => hk.2) (.int .i64 t244)) (fun _ hk => ⟨hk.1.1, hk.1.2⟩)⟩, ⟨(bp1 BK220.out NB220_246.out)⟩, ⟨(bp1 BK221.out NB221_246.out)⟩, ⟨(bp1 BK222.out NB222_246.out)⟩, ⟨(bp1 BK227.out NB227_246.out)⟩, ⟨(bp1 BK228.out NB228_246.out)⟩, ⟨by exact q4 HB.out GE220.out GE221.out GE222.out GE227.out GE228.out GE246.out⟩⟩
                  ·rw [if_neg c62] at H
                   have c62b0 : (t247 == 0) = false := beq_eq_false_iff_ne.mpr c62
                   have c62b1 : (t247 != 0) = true := bne_iff_ne.mpr c62
                   have H' := Aside0.mk H
                   clear H
                   try go_wp2
                   have n0_ := Aside0.mk (Kd.R_drew HO_14.out)
                   have n1_ := Aside0.mk (blk_drew BK220.out)
                   have n2_ := Aside0.mk (blk_drew BK221.out)
                   have n3_ := Aside0.mk (blk_drew BK222.out)
                   have n4_ := Aside0.mk (blk_drew BK227.out)
                   have n5_ := Aside0.mk (blk_drew BK228.out)
                   have n6_ := Aside0.mk (below_drew1 HB.out)
                   clear HO_14
                   clear BK220
                   clear BK221
                   clear BK222
                   clear BK227
                   clear BK228
                   clear HB
                   have HO_14 := n0_
                   have BK220 := n1_
                   have BK221 := n2_
                   have BK222 := n3_
                   have BK227 := n4_
                   have BK228 := n5_
                   have HB := n6_
                   clear n0_ n1_ n2_ n3_ n4_ n5_ n6_
                   obtain ⟨Ao120, co120, eo120⟩ := Kd.R_slice HO_14.out
                   (first | subst eo120 | (injection eo120 with f1_ f2_ f3_; have f4_ := f1_.symm; have f5_ := f3_.symm; clear f1_ f2_ f3_; subst f4_; subst f5_))
                   have p242 : 0 ≤ (x15_5 : Int) := of_decide_eq_true (by first | (with_reducible assumption) | assumption)
                   have q242 : x15_5 < (y237.length : Int) := of_decide_eq_true (by first | (with_reducible assumption) | assumption)
                   obtain ⟨ad242, e242, hx242_0, hx242_1⟩ := at_T25 (Kd.R_reads' HO_14.out).2.2 x15_5 p242 q242
                   cases e242
                   replace p242 := eq_true p242
                   replace q242 := eq_true q242
                   refine start_ (n := 14) (S := fun w' => w'.cell? ⟨gb220, 0, none⟩ = some (.int .i64 a0_0) ∧ w'.cell? ⟨gb222, 0, none⟩ = some (.int .i64 a2_0) ∧ w'.cell? ⟨gb222, 1, none⟩ = some (.int .i64 a2_1) ∧ w'.cell? (ad242.add ((x15_5).toNat * 2)) = some (.int .i64 ((rd_T25 y237 x15_5).f0)) ∧ w'.cell? ⟨(ad242.add ((x15_5).toNat * 2)).block, (ad242.add ((x15_5).toNat * 2)).off + 1, none⟩ = some (.int .i64 ((rd_T25 y237 x15_5).f1))) (ds := []) #[false, false, false, false, false, false, false, false, false, false, false, false, false, false] (by kernel_rfl) rfl rfl ⟨bc BK220 0, bc BK222 0, bc BK222 1, hx242_0, hx242_1⟩ (fun hHeld => ?_); refine with_tabW glebelaw06_cells.tab15 glebelaw06_cells.bits15 (fun HT_ HW_ => ?_)
                   generalize wc.drew = w119 at HO_14 BK220 BK221 BK222 BK227 BK228 HB hx242_0 hx242_1 hHeld ⊢
                   refine pure_ (i := 1) (N := some 103) (v := ?_) (a' := ?_) #[false, true, false, false, false, false, false, false, false, false, false, false, false, false] rfl rfl (any_of HT_.out (by kernel_rfl)) (fun _ _ _ h => h) (Or.inl ⟨by rfl, ?_⟩) ?_ ?_
                   rotate_left
                   ·intro w'
                    go_simp
                    with_reducible rfl
                   rotate_left
                   ·simp only [Act.put, List.setIfInBounds_toArray, List.set_cons_zero, List.set_cons_succ, i64_w, i32_w]
                    rfl
                   refine pure_ (i := 2) (N := some 104) (v := ?_) (a' := ?_) #[false, true, true, false, false, false, false, false, false, false, false, false, false, false] rfl rfl (any_of HT_.out (by kernel_rfl)) (fun _ _ _ h => h) (Or.inl ⟨by rfl, ?_⟩) ?_ ?_
                   rotate_left
                   ·intro w'
                    go_simp
                    with_reducible rfl
                   rotate_left
                   ·simp only [Act.put, List.setIfInBounds_toArray, List.set_cons_zero, List.set_cons_succ, i64_w, i32_w]
                    rfl
                   refine pure_ (i := 3) (N := some 105) (v := ?_) (a' := ?_) #[false, true, true, true, false, false, false, false, false, false, false, false, false, false] rfl rfl (any_of HT_.out (by kernel_rfl)) (fun _ _ _ h => h) (Or.inl ⟨by rfl, ?_⟩) ?_ ?_
                   rotate_left
                   ·intro w'
                    go_simp
                    with_reducible rfl
                   rotate_left
                   ·simp only [Act.put, List.setIfInBounds_toArray, List.set_cons_zero, List.set_cons_succ, i64_w, i32_w]
                    rfl
                   refine pure_ (i := 5) (N := some 107) (v := ?_) (a' := ?_) #[false, true, true, true, false, true, false, false, false, false, false, false, false, false] rfl rfl (any_of HT_.out (by kernel_rfl)) (fun _ _ _ h => h) (Or.inl ⟨by rfl, ?_⟩) ?_ ?_
                   rotate_left
                   ·intro w'
                    go_simp
                    with_reducible rfl
                   rotate_left
                   ·simp only [Act.put, List.setIfInBounds_toArray, List.set_cons_zero, List.set_cons_succ, i64_w, i32_w]
                    rfl
                   refine take_ (i := 0) (N := some 102) (v := ?_) (a' := ?_) #[true, true, true, true, false, true, false, false, false, false, false, false, false, false] rfl rfl (take_ofW HT_.out HW_.out (by kernel_rfl)) (fun _ _ _ h => h) (Or.inl ⟨by rfl, ?_⟩) hHeld ?_ ?_
                   rotate_left
                   ·rintro w' ⟨s0, s1, s2, s3, s4⟩
                    go_simp
                    with_reducible rfl
                   rotate_left
                   ·simp only [Act.put, List.setIfInBounds_toArray, List.set_cons_zero, List.set_cons_succ, i64_w, i32_w]
                    rfl
                   refine take_ (i := 4) (N := some 106) (v := ?_) (a' := ?_) #[true, true, true, true, true, true, false, false, false, false, false, false, false, false] rfl rfl (take_ofW HT_.out HW_.out (by kernel_rfl)) (fun _ _ _ h => h) (Or.inl ⟨by rfl, ?_⟩) hHeld ?_ ?_
                   rotate_left
                   ·rintro w' ⟨s0, s1, s2, s3, s4⟩
                    go_simp
                    with_reducible rfl
                   rotate_left
                   ·simp only [Act.put, List.setIfInBounds_toArray, List.set_cons_zero, List.set_cons_succ, i64_w, i32_w]
                    rfl
                   refine take_ (i := 6) (N := some 108) (v := ?_) (a' := ?_) #[true, true, true, true, true, true, true, false, false, false, false, false, false, false] rfl rfl (take_ofW HT_.out HW_.out (by kernel_rfl)) (fun _ _ _ h => h) (Or.inl ⟨by rfl, ?_⟩) hHeld ?_ ?_
                   rotate_left
                   ·rintro w' ⟨s0, s1, s2, s3, s4⟩
                    go_simp
                    with_reducible rfl
                   rotate_left
                   ·simp only [Act.put, List.setIfInBounds_toArray, List.set_cons_zero, List.set_cons_succ, i64_w, i32_w]
                    rfl
                   refine join_ (σ := Nat) 2 #[true, true, true, true, true, true, true, true, true, true, true, true, false, false] (fun s_ => [(109, .tuple #[.agg #[.int .i64 t243, .int .i64 t244], .int .i64 t245]), (17, .pointer (some ⟨s_, 0, none⟩)), (101, .tuple #[.agg #[.int .i64 t243, .int .i64 t244], .int .i64 t245]), (110, .agg #[.int .i64 t243, .int .i64 t244]), (111, .int .i64 t245)]) (fun s_ w' => (w'.cell? ⟨gb220, 0, none⟩ = some (.int .i64 a0_0) ∧ w'.cell? ⟨gb222, 0, none⟩ = some (.int .i64 a2_0) ∧ w'.cell? ⟨gb222, 1, none⟩ = some (.int .i64 a2_1) ∧ w'.cell? (ad242.add ((x15_5).toNat * 2)) = some (.int .i64 ((rd_T25 y237 x15_5).f0)) ∧ w'.cell? ⟨(ad242.add ((x15_5).toNat * 2)).block, (ad242.add ((x15_5).toNat * 2)).off + 1, none⟩ = some (.int .i64 ((rd_T25 y237 x15_5).f1))) ∧ (Kd.R k25 25 w' w.heap.size (fun k_ => k_ ≠ gb227 ∧ k_ ≠ gb228) (.slice (some ad242) y237.length co120) y237) ∧ (w'.heap[gb220]? = some (.cells #[.int .i64 a0_0] 27 (0, 0))) ∧ (w'.heap[gb221]? = some (.cells #[.int .i64 a1_0, .int .i64 a1_1] 23 (0, 0))) ∧ (w'.heap[gb222]? = some (.cells #[.int .i64 a2_0, .int .i64 a2_1] 23 (0, 0))) ∧ (w'.heap[gb227]? = some (.cells #[.int .i64 t223, .int .i64 t224] 25 (0, 0))) ∧ (w'.heap[gb228]? = some (.cells #[.int .i64 (wrap64 (t223 + x11_1)), .int .i64 (wrap64 (t224 + x12_3))] 25 (0, 0))) ∧ (w'.heap[s_]? = some (.cells #[.int .i64 0, .int .i64 0] 23 (0, 0))) ∧ (w.heap.size ≤ s_) ∧ (w.heap.size ≤ s_) ∧ (gb220 ≠ s_) ∧ (s_ ≠ gb220) ∧ (gb221 ≠ s_) ∧ (s_ ≠ gb221) ∧ (gb222 ≠ s_) ∧ (s_ ≠ gb222) ∧ (gb227 ≠ s_) ∧ (s_ ≠ gb227) ∧ (gb228 ≠ s_) ∧ (s_ ≠ gb228) ∧ (Below w.heap.size w w')) ?_ ?_
                   rotate_left
                   ·intro hCont
                    refine two_ (i := 7) (j := 11) (Ni := some 109) (Nj := some 17) #[true, true, true, true, true, true, true, true, false, false, false, false, false, false] #[true, true, true, true, true, true, true, false, false, false, false, true, false, false] rfl rfl rfl rfl (two_of HT_.out (by kernel_rfl)) (by decide) (by decide) (fun K hK => ?_) (fun K hK => ?_)
                    ·skip
                     refine goes_ Try.func59 (by kernel_rfl) rfl #[.agg #[.int .i64 a0_0], .agg #[.int .i64 ((rd_T25 y237 x15_5).f0), .int .i64 ((rd_T25 y237 x15_5).f1)], .int .i64 a2_0] (by rfl) rfl rfl (by (try simp only [List.map_toArray, List.map_cons, List.map_nil]); first | done | rfl | (simp only [List.length_drop, List.length_take]; rfl)) ?_
                     with_reducible refine (path_At.calls kj47 a0_0 ((rd_T25 y237 x15_5).f0) ((rd_T25 y237 x15_5).f1) a2_0 t243 t244 t245 _ A60.out).mono ?_
                     rintro e w121 ⟨rfl, hb⟩
                     have HS3_ := (hb.cell (World.block_lt_of_cell? _ _ (hHeld.2.2.2.1))).trans (hHeld.2.2.2.1)
                     have HS4_ := (hb.cell (World.block_lt_of_cell? _ _ (hHeld.2.2.2.2))).trans (hHeld.2.2.2.2)
                     refine ⟨_, rfl, ?_⟩
                     have n0_ := Aside0.mk (Kd.R_below (br HO_14.out) hb)
                     have n1_ := Aside0.mk (blk_below (bk BK220.out) hb)
                     have n2_ := Aside0.mk (blk_below (bk BK221.out) hb)
                     have n3_ := Aside0.mk (blk_below (bk BK222.out) hb)
                     have n4_ := Aside0.mk (blk_below (bk BK227.out) hb)
                     have n5_ := Aside0.mk (blk_below (bk BK228.out) hb)
                     have n6_ := Aside0.mk (below_step (q3 HB.out GE220.out GE221.out GE222.out GE227.out GE228.out) hb)
                     clear HO_14
                     clear BK220
                     clear BK221
                     clear BK222
                     clear BK227
                     clear BK228
                     clear HB
                     have HO_14 := n0_
                     have BK220 := n1_
                     have BK221 := n2_
                     have BK222 := n3_
                     have BK227 := n4_
                     have BK228 := n5_
                     have HB := n6_
                     clear n0_ n1_ n2_ n3_ n4_ n5_ n6_
                     (try clear hb)
                     (try clear hb2)
                     (try clear hk)
                     (try clear hi)
                     refine hK.out _ _ ⟨bc BK220 0, bc BK222 0, bc BK222 1, HS3_, HS4_⟩ (fun hHeld => ?_)
                     clear hK K
                     refine norm_ (a' := ?_) ?_ ?_
                     rotate_left
                     ·show Act.put _ (some 109) _ = _
                      simp only [Act.put, List.setIfInBounds_toArray, List.set_cons_zero, List.set_cons_succ, i64_w, i32_w]
                      rfl
                     refine pure_ (i := 8) (N := some 101) (v := ?_) (a' := ?_) #[true, true, true, true, true, true, true, true, true, false, false, false, false, false] rfl rfl (any_of HT_.out (by kernel_rfl)) (fun _ _ _ h => h) (Or.inl ⟨by rfl, ?_⟩) ?_ ?_
                     rotate_left
                     ·intro w'
                      go_simp
                      with_reducible rfl
                     rotate_left
                     ·simp only [Act.put, List.setIfInBounds_toArray, List.set_cons_zero, List.set_cons_succ, i64_w, i32_w]
                      rfl
                     refine pure_ (i := 9) (N := some 110) (v := ?_) (a' := ?_) #[true, true, true, true, true, true, true, true, true, true, false, false, false, false] rfl rfl (any_of HT_.out (by kernel_rfl)) (fun _ _ _ h => h) (Or.inl ⟨by rfl, ?_⟩) ?_ ?_
                     rotate_left
                     ·intro w'
                      go_simp
                      with_reducible rfl
                     rotate_left
                     ·simp only [Act.put, List.setIfInBounds_toArray, List.set_cons_zero, List.set_cons_succ, i64_w, i32_w]
                      rfl
                     refine pure_ (i := 10) (N := some 111) (v := ?_) (a' := ?_) #[true, true, true, true, true, true, true, true, true, true, true, false, false, false] rfl rfl (any_of HT_.out (by kernel_rfl)) (fun _ _ _ h => h) (Or.inl ⟨by rfl, ?_⟩) ?_ ?_
                     rotate_left
                     ·intro w'
                      go_simp
                      with_reducible rfl
                     rotate_left
                     ·simp only [Act.put, List.setIfInBounds_toArray, List.set_cons_zero, List.set_cons_succ, i64_w, i32_w]
                      rfl
                     refine one_ (i := 11) (N := some 17) #[true, true, true, true, true, true, true, true, true, true, true, true, false, false] rfl rfl (one_of HT_.out (by kernel_rfl)) (by decide) (fun K hK => ?_)
                     refine box_step ?hg (N := 17) ?hd (cs := #[.int .i64 0, .int .i64 0]) (t := 23) ?hr ?_; (case hd => rfl); (case hg => rfl); (case hr => first | (go_simp; done) | (go_simp; rfl))
                     intro gb246 hg w122 hbox hb
                     have HS3_ := (hb.cell (World.block_lt_of_cell? _ _ (hHeld.2.2.2.1))).trans (hHeld.2.2.2.1)
                     have HS4_ := (hb.cell (World.block_lt_of_cell? _ _ (hHeld.2.2.2.2))).trans (hHeld.2.2.2.2)
                     have n0_ := Aside0.mk (Kd.R_below (br HO_14.out) hb)
                     have n1_ := Aside0.mk (blk_below (bk BK220.out) hb)
                     have n2_ := Aside0.mk (blk_below (bk BK221.out) hb)
                     have n3_ := Aside0.mk (blk_below (bk BK222.out) hb)
                     have n4_ := Aside0.mk (blk_below (bk BK227.out) hb)
                     have n5_ := Aside0.mk (blk_below (bk BK228.out) hb)
                     have n6_ := Aside0.mk (below_step (q3 HB.out GE220.out GE221.out GE222.out GE227.out GE228.out) hb)
                     have n7_ := Aside0.mk (hbox)
                     have n8_ := Aside0.mk ((by rw [hg]; exact (below_size (q3 HB.out GE220.out GE221.out GE222.out GE227.out GE228.out)) : w.heap.size ≤ gb246))
                     have n9_ := Aside0.mk ((by rw [hg]; exact (below_size (q3 HB.out GE220.out GE221.out GE222.out GE227.out GE228.out)) : w.heap.size ≤ gb246))
                     have n10_ := Aside0.mk ((by rw [hg]; exact Nat.ne_of_lt (blk_lt (g := gb220) (o := .cells #[.int .i64 a0_0] 27 (0, 0)) (bk BK220.out)) : gb220 ≠ gb246))
                     have n11_ := Aside0.mk ((by rw [hg]; exact Nat.ne_of_gt (blk_lt (g := gb220) (o := .cells #[.int .i64 a0_0] 27 (0, 0)) (bk BK220.out)) : gb246 ≠ gb220))
                     have n12_ := Aside0.mk ((by rw [hg]; exact Nat.ne_of_lt (blk_lt (g := gb221) (o := .cells #[.int .i64 a1_0, .int .i64 a1_1] 23 (0, 0)) (bk BK221.out)) : gb221 ≠ gb246))
                     have n13_ := Aside0.mk ((by rw [hg]; exact Nat.ne_of_gt (blk_lt (g := gb221) (o := .cells #[.int .i64 a1_0, .int .i64 a1_1] 23 (0, 0)) (bk BK221.out)) : gb246 ≠ gb221))
                     have n14_ := Aside0.mk ((by rw [hg]; exact Nat.ne_of_lt (blk_lt (g := gb222) (o := .cells #[.int .i64 a2_0, .int .i64 a2_1] 23 (0, 0)) (bk BK222.out)) : gb222 ≠ gb246))
                     have n15_ := Aside0.mk ((by rw [hg]; exact Nat.ne_of_gt (blk_lt (g := gb222) (o := .cells #[.int .i64 a2_0, .int .i64 a2_1] 23 (0, 0)) (bk BK222.out)) : gb246 ≠ gb222))
                     have n16_ := Aside0.mk ((by rw [hg]; exact Nat.ne_of_lt (blk_lt (g := gb227) (o := .cells #[.int .i64 t223, .int .i64 t224] 25 (0, 0)) (bk BK227.out)) : gb227 ≠ gb246))
                     have n17_ := Aside0.mk ((by rw [hg]; exact Nat.ne_of_gt (blk_lt (g := gb227) (o := .cells #[.int .i64 t223, .int .i64 t224] 25 (0, 0)) (bk BK227.out)) : gb246 ≠ gb227))
                     have n18_ := Aside0.mk ((by rw [hg]; exact Nat.ne_of_lt (blk_lt (g := gb228) (o := .cells #[.int .i64 (wrap64 (t223 + x11_1)), .int .i64 (wrap64 (t224 + x12_3))] 25 (0, 0)) (bk BK228.out)) : gb228 ≠ gb246))
                     have n19_ := Aside0.mk ((by rw [hg]; exact Nat.ne_of_gt (blk_lt (g := gb228) (o := .cells #[.int .i64 (wrap64 (t223 + x11_1)), .int .i64 (wrap64 (t224 + x12_3))] 25 (0, 0)) (bk BK228.out)) : gb246 ≠ gb228))
                     clear HO_14
                     clear BK220
                     clear BK221
                     clear BK222
                     clear BK227
                     clear BK228
                     clear HB
                     have HO_14 := n0_
                     have BK220 := n1_
                     have BK221 := n2_
                     have BK222 := n3_
                     have BK227 := n4_
                     have BK228 := n5_
                     have HB := n6_
                     have BK246 := n7_
                     have GW246 := n8_
                     have GE246 := n9_
                     have NB220_246 := n10_
                     have NB246_220 := n11_
                     have NB221_246 := n12_
                     have NB246_221 := n13_
                     have NB222_246 := n14_
                     have NB246_222 := n15_
                     have NB227_246 := n16_
                     have NB246_227 := n17_
                     have NB228_246 := n18_
                     have NB246_228 := n19_
                     clear n0_ n1_ n2_ n3_ n4_ n5_ n6_ n7_ n8_ n9_ n10_ n11_ n12_ n13_ n14_ n15_ n16_ n17_ n18_ n19_
                     clear hb hbox hg
                     refine hK.out _ _ ⟨bc BK220 0, bc BK222 0, bc BK222 1, HS3_, HS4_⟩ (fun hHeld => ?_)
                     clear hK K
                     refine norm_ (a' := ?_) ?_ ?_
                     rotate_left
                     ·show Act.put _ (some 17) _ = _
                      simp only [Act.put, List.setIfInBounds_toArray, List.set_cons_zero, List.set_cons_succ, i64_w, i32_w]
                      rfl
                     exact norm_ (by simp only [putAll, Act.put, List.setIfInBounds_toArray, List.set_cons_zero, List.set_cons_succ]) (hCont (gb246) _ ⟨hHeld, (br HO_14.out), (bk BK220.out), (bk BK221.out), (bk BK222.out), (bk BK227.out), (bk BK228.out), (bk BK246.out), GW246.out, GE246.out, NB220_246.out, NB246_220.out, NB221_246.out, NB246_221.out, NB222_246.out, NB246_222.out, NB227_246.out, NB246_227.out, NB228_246.out, NB246_228.out, (q4 HB.out GE220.out GE221.out GE222.out GE227.out GE228.out GE246.out)⟩)
                    ·skip
                     refine box_step ?hg (N := 17) ?hd (cs := #[.int .i64 0, .int .i64 0]) (t := 23) ?hr ?_; (case hd => rfl); (case hg => rfl); (case hr => first | (go_simp; done) | (go_simp; rfl))
                     intro gb246 hg w121 hbox hb
                     have HS3_ := (hb.cell (World.block_lt_of_cell? _ _ (hHeld.2.2.2.1))).trans (hHeld.2.2.2.1)
                     have HS4_ := (hb.cell (World.block_lt_of_cell? _ _ (hHeld.2.2.2.2))).trans (hHeld.2.2.2.2)
                     have n0_ := Aside0.mk (Kd.R_below (br HO_14.out) hb)
                     have n1_ := Aside0.mk (blk_below (bk BK220.out) hb)
                     have n2_ := Aside0.mk (blk_below (bk BK221.out) hb)
                     have n3_ := Aside0.mk (blk_below (bk BK222.out) hb)
                     have n4_ := Aside0.mk (blk_below (bk BK227.out) hb)
                     have n5_ := Aside0.mk (blk_below (bk BK228.out) hb)
                     have n6_ := Aside0.mk (below_step (q3 HB.out GE220.out GE221.out GE222.out GE227.out GE228.out) hb)
                     have n7_ := Aside0.mk (hbox)
                     have n8_ := Aside0.mk ((by rw [hg]; exact (below_size (q3 HB.out GE220.out GE221.out GE222.out GE227.out GE228.out)) : w.heap.size ≤ gb246))
                     have n9_ := Aside0.mk ((by rw [hg]; exact (below_size (q3 HB.out GE220.out GE221.out GE222.out GE227.out GE228.out)) : w.heap.size ≤ gb246))
                     have n10_ := Aside0.mk ((by rw [hg]; exact Nat.ne_of_lt (blk_lt (g := gb220) (o := .cells #[.int .i64 a0_0] 27 (0, 0)) (bk BK220.out)) : gb220 ≠ gb246))
                     have n11_ := Aside0.mk ((by rw [hg]; exact Nat.ne_of_gt (blk_lt (g := gb220) (o := .cells #[.int .i64 a0_0] 27 (0, 0)) (bk BK220.out)) : gb246 ≠ gb220))
                     have n12_ := Aside0.mk ((by rw [hg]; exact Nat.ne_of_lt (blk_lt (g := gb221) (o := .cells #[.int .i64 a1_0, .int .i64 a1_1] 23 (0, 0)) (bk BK221.out)) : gb221 ≠ gb246))
                     have n13_ := Aside0.mk ((by rw [hg]; exact Nat.ne_of_gt (blk_lt (g := gb221) (o := .cells #[.int .i64 a1_0, .int .i64 a1_1] 23 (0, 0)) (bk BK221.out)) : gb246 ≠ gb221))
                     have n14_ := Aside0.mk ((by rw [hg]; exact Nat.ne_of_lt (blk_lt (g := gb222) (o := .cells #[.int .i64 a2_0, .int .i64 a2_1] 23 (0, 0)) (bk BK222.out)) : gb222 ≠ gb246))
                     have n15_ := Aside0.mk ((by rw [hg]; exact Nat.ne_of_gt (blk_lt (g := gb222) (o := .cells #[.int .i64 a2_0, .int .i64 a2_1] 23 (0, 0)) (bk BK222.out)) : gb246 ≠ gb222))
                     have n16_ := Aside0.mk ((by rw [hg]; exact Nat.ne_of_lt (blk_lt (g := gb227) (o := .cells #[.int .i64 t223, .int .i64 t224] 25 (0, 0)) (bk BK227.out)) : gb227 ≠ gb246))
                     have n17_ := Aside0.mk ((by rw [hg]; exact Nat.ne_of_gt (blk_lt (g := gb227) (o := .cells #[.int .i64 t223, .int .i64 t224] 25 (0, 0)) (bk BK227.out)) : gb246 ≠ gb227))
                     have n18_ := Aside0.mk ((by rw [hg]; exact Nat.ne_of_lt (blk_lt (g := gb228) (o := .cells #[.int .i64 (wrap64 (t223 + x11_1)), .int .i64 (wrap64 (t224 + x12_3))] 25 (0, 0)) (bk BK228.out)) : gb228 ≠ gb246))
                     have n19_ := Aside0.mk ((by rw [hg]; exact Nat.ne_of_gt (blk_lt (g := gb228) (o := .cells #[.int .i64 (wrap64 (t223 + x11_1)), .int .i64 (wrap64 (t224 + x12_3))] 25 (0, 0)) (bk BK228.out)) : gb246 ≠ gb228))
                     clear HO_14
                     clear BK220
                     clear BK221
                     clear BK222
                     clear BK227
                     clear BK228
                     clear HB
                     have HO_14 := n0_
                     have BK220 := n1_
                     have BK221 := n2_
                     have BK222 := n3_
                     have BK227 := n4_
                     have BK228 := n5_
                     have HB := n6_
                     have BK246 := n7_
                     have GW246 := n8_
                     have GE246 := n9_
                     have NB220_246 := n10_
                     have NB246_220 := n11_
                     have NB221_246 := n12_
                     have NB246_221 := n13_
                     have NB222_246 := n14_
                     have NB246_222 := n15_
                     have NB227_246 := n16_
                     have NB246_227 := n17_
                     have NB228_246 := n18_
                     have NB246_228 := n19_
                     clear n0_ n1_ n2_ n3_ n4_ n5_ n6_ n7_ n8_ n9_ n10_ n11_ n12_ n13_ n14_ n15_ n16_ n17_ n18_ n19_
                     clear hb hbox hg
                     refine hK.out _ _ ⟨bc BK220 0, bc BK222 0, bc BK222 1, HS3_, HS4_⟩ (fun hHeld => ?_)
                     clear hK K
                     refine norm_ (a' := ?_) ?_ ?_
                     rotate_left
                     ·show Act.put _ (some 17) _ = _
                      simp only [Act.put, List.setIfInBounds_toArray, List.set_cons_zero, List.set_cons_succ, i64_w, i32_w]
                      rfl
                     refine one_ (i := 7) (N := some 109) #[true, true, true, true, true, true, true, true, false, false, false, true, false, false] rfl rfl (one_of HT_.out (by kernel_rfl)) (by decide) (fun K hK => ?_)
                     refine goes_ Try.func59 (by kernel_rfl) rfl #[.agg #[.int .i64 a0_0], .agg #[.int .i64 ((rd_T25 y237 x15_5).f0), .int .i64 ((rd_T25 y237 x15_5).f1)], .int .i64 a2_0] (by rfl) rfl rfl (by (try simp only [List.map_toArray, List.map_cons, List.map_nil]); first | done | rfl | (simp only [List.length_drop, List.length_take]; rfl)) ?_
                     with_reducible refine (path_At.calls kj47 a0_0 ((rd_T25 y237 x15_5).f0) ((rd_T25 y237 x15_5).f1) a2_0 t243 t244 t245 _ A60.out).mono ?_
                     rintro e w122 ⟨rfl, hb⟩
                     have HS3_ := (hb.cell (World.block_lt_of_cell? _ _ (hHeld.2.2.2.1))).trans (hHeld.2.2.2.1)
                     have HS4_ := (hb.cell (World.block_lt_of_cell? _ _ (hHeld.2.2.2.2))).trans (hHeld.2.2.2.2)
                     refine ⟨_, rfl, ?_⟩
                     have n0_ := Aside0.mk (Kd.R_below (br HO_14.out) hb)
                     have n1_ := Aside0.mk (blk_below (bk BK220.out) hb)
                     have n2_ := Aside0.mk (blk_below (bk BK221.out) hb)
                     have n3_ := Aside0.mk (blk_below (bk BK222.out) hb)
                     have n4_ := Aside0.mk (blk_below (bk BK227.out) hb)
                     have n5_ := Aside0.mk (blk_below (bk BK228.out) hb)
                     have n6_ := Aside0.mk (blk_below (bk BK246.out) hb)
                     have n7_ := Aside0.mk (below_step (q4 HB.out GE220.out GE221.out GE222.out GE227.out GE228.out GE246.out) hb)
                     clear HO_14
                     clear BK220
                     clear BK221
                     clear BK222
                     clear BK227
                     clear BK228
                     clear BK246
                     clear HB
                     have HO_14 := n0_
                     have BK220 := n1_
                     have BK221 := n2_
                     have BK222 := n3_
                     have BK227 := n4_
                     have BK228 := n5_
                     have BK246 := n6_
                     have HB := n7_
                     clear n0_ n1_ n2_ n3_ n4_ n5_ n6_ n7_
                     (try clear hb)
                     (try clear hb2)
                     (try clear hk)
                     (try clear hi)
                     refine hK.out _ _ ⟨bc BK220 0, bc BK222 0, bc BK222 1, HS3_, HS4_⟩ (fun hHeld => ?_)
                     clear hK K
                     refine norm_ (a' := ?_) ?_ ?_
                     rotate_left
                     ·show Act.put _ (some 109) _ = _
                      simp only [Act.put, List.setIfInBounds_toArray, List.set_cons_zero, List.set_cons_succ, i64_w, i32_w]
                      rfl
                     refine pure_ (i := 8) (N := some 101) (v := ?_) (a' := ?_) #[true, true, true, true, true, true, true, true, true, false, false, true, false, false] rfl rfl (any_of HT_.out (by kernel_rfl)) (fun _ _ _ h => h) (Or.inl ⟨by rfl, ?_⟩) ?_ ?_
                     rotate_left
                     ·intro w'
                      go_simp
                      with_reducible rfl
                     rotate_left
                     ·simp only [Act.put, List.setIfInBounds_toArray, List.set_cons_zero, List.set_cons_succ, i64_w, i32_w]
                      rfl
                     refine pure_ (i := 9) (N := some 110) (v := ?_) (a' := ?_) #[true, true, true, true, true, true, true, true, true, true, false, true, false, false] rfl rfl (any_of HT_.out (by kernel_rfl)) (fun _ _ _ h => h) (Or.inl ⟨by rfl, ?_⟩) ?_ ?_
                     rotate_left
                     ·intro w'
                      go_simp
                      with_reducible rfl
                     rotate_left
                     ·simp only [Act.put, List.setIfInBounds_toArray, List.set_cons_zero, List.set_cons_succ, i64_w, i32_w]
                      rfl
                     refine pure_ (i := 10) (N := some 111) (v := ?_) (a' := ?_) #[true, true, true, true, true, true, true, true, true, true, true, true, false, false] rfl rfl (any_of HT_.out (by kernel_rfl)) (fun _ _ _ h => h) (Or.inl ⟨by rfl, ?_⟩) ?_ ?_
                     rotate_left
                     ·intro w'
                      go_simp
                      with_reducible rfl
                     rotate_left
                     ·simp only [Act.put, List.setIfInBounds_toArray, List.set_cons_zero, List.set_cons_succ, i64_w, i32_w]
                      rfl
                     exact norm_ (by simp only [putAll, Act.put, List.setIfInBounds_toArray, List.set_cons_zero, List.set_cons_succ]) (hCont (gb246) _ ⟨hHeld, (br HO_14.out), (bk BK220.out), (bk BK221.out), (bk BK222.out), (bk BK227.out), (bk BK228.out), (bk BK246.out), GW246.out, GE246.out, NB220_246.out, NB246_220.out, NB221_246.out, NB246_221.out, NB222_246.out, NB246_222.out, NB227_246.out, NB246_227.out, NB228_246.out, NB246_228.out, (q4 HB.out GE220.out GE221.out GE222.out GE227.out GE228.out GE246.out)⟩)
                   rintro gb246 w123 ⟨hS_, h0_, h1_, h2_, h3_, h4_, h5_, h6_, h7_, h8_, h9_, h10_, h11_, h12_, h13_, h14_, h15_, h16_, h17_, h18_, h19_⟩
                   have n0_ : Aside0 (Kd.R k25 25 w123 w.heap.size (fun k_ => k_ ≠ gb227 ∧ k_ ≠ gb228) (.slice (some ad242) y237.length co120) y237) := ⟨h0_⟩
                   have n1_ : Aside0 (w123.heap[gb220]? = some (.cells #[.int .i64 a0_0] 27 (0, 0))) := ⟨h1_⟩
                   have n2_ : Aside0 (w123.heap[gb221]? = some (.cells #[.int .i64 a1_0, .int .i64 a1_1] 23 (0, 0))) := ⟨h2_⟩
                   have n3_ : Aside0 (w123.heap[gb222]? = some (.cells #[.int .i64 a2_0, .int .i64 a2_1] 23 (0, 0))) := ⟨h3_⟩
                   have n4_ : Aside0 (w123.heap[gb227]? = some (.cells #[.int .i64 t223, .int .i64 t224] 25 (0, 0))) := ⟨h4_⟩
                   have n5_ : Aside0 (w123.heap[gb228]? = some (.cells #[.int .i64 (wrap64 (t223 + x11_1)), .int .i64 (wrap64 (t224 + x12_3))] 25 (0, 0))) := ⟨h5_⟩
                   have n6_ : Aside0 (w123.heap[gb246]? = some (.cells #[.int .i64 0, .int .i64 0] 23 (0, 0))) := ⟨h6_⟩
                   have n7_ : Aside0 (w.heap.size ≤ gb246) := ⟨h7_⟩
                   have n8_ : Aside0 (w.heap.size ≤ gb246) := ⟨h8_⟩
                   have n9_ : Aside0 (gb220 ≠ gb246) := ⟨h9_⟩
                   have n10_ : Aside0 (gb246 ≠ gb220) := ⟨h10_⟩
                   have n11_ : Aside0 (gb221 ≠ gb246) := ⟨h11_⟩
                   have n12_ : Aside0 (gb246 ≠ gb221) := ⟨h12_⟩
                   have n13_ : Aside0 (gb222 ≠ gb246) := ⟨h13_⟩
                   have n14_ : Aside0 (gb246 ≠ gb222) := ⟨h14_⟩
                   have n15_ : Aside0 (gb227 ≠ gb246) := ⟨h15_⟩
                   have n16_ : Aside0 (gb246 ≠ gb227) := ⟨h16_⟩
                   have n17_ : Aside0 (gb228 ≠ gb246) := ⟨h17_⟩
                   have n18_ : Aside0 (gb246 ≠ gb228) := ⟨h18_⟩
                   have n19_ : Aside0 (Below w.heap.size w w123) := ⟨h19_⟩
                   clear HO_14
                   clear BK220
                   clear BK221
                   clear BK222
                   clear BK227
                   clear BK228
                   clear HB
                   clear h0_ h1_ h2_ h3_ h4_ h5_ h6_ h7_ h8_ h9_ h10_ h11_ h12_ h13_ h14_ h15_ h16_ h17_ h18_ h19_
                   have HO_14 := n0_
                   have BK220 := n1_
                   have BK221 := n2_
                   have BK222 := n3_
                   have BK227 := n4_
                   have BK228 := n5_
                   have BK246 := n6_
                   have GW246 := n7_
                   have GE246 := n8_
                   have NB220_246 := n9_
                   have NB246_220 := n10_
                   have NB221_246 := n11_
                   have NB246_221 := n12_
                   have NB222_246 := n13_
                   have NB246_222 := n14_
                   have NB227_246 := n15_
                   have NB246_227 := n16_
                   have NB228_246 := n17_
                   have NB246_228 := n18_
                   have HB := n19_
                   clear n0_ n1_ n2_ n3_ n4_ n5_ n6_ n7_ n8_ n9_ n10_ n11_ n12_ n13_ n14_ n15_ n16_ n17_ n18_ n19_
                   have hHeld : w123.cell? ⟨gb220, 0, none⟩ = some (.int .i64 a0_0) ∧ w123.cell? ⟨gb222, 0, none⟩ = some (.int .i64 a2_0) ∧ w123.cell? ⟨gb222, 1, none⟩ = some (.int .i64 a2_1) ∧ w123.cell? (ad242.add ((x15_5).toNat * 2)) = some (.int .i64 ((rd_T25 y237 x15_5).f0)) ∧ w123.cell? ⟨(ad242.add ((x15_5).toNat * 2)).block, (ad242.add ((x15_5).toNat * 2)).off + 1, none⟩ = some (.int .i64 ((rd_T25 y237 x15_5).f1)) := hS_
                   refine norm_ (a' := ?_) ?_ ?_
                   rotate_left
                   ·simp only [putAll, Act.put, List.setIfInBounds_toArray, List.set_cons_zero, List.set_cons_succ]
                    rfl
                   refine one_ (i := 12) (N := none) #[true, true, true, true, true, true, true, true, true, true, true, true, true, false] rfl rfl (one_of HT_.out (by kernel_rfl)) (by decide) (fun K hK => ?_)
                   have hs124 : w123.cell? ⟨gb246, 0, none⟩ = some (.int .i64 0) := bc BK246 0
                   have hfs124 := blk_frozen BK246.out 0
                   have hns124_0 := NB220_246.out
                   have hns124_1 := NB221_246.out
                   have hns124_2 := NB222_246.out
                   have hns124_3 := NB227_246.out
                   have hns124_4 := NB228_246.out
                   have hms124_0 := NB246_220.out
                   have hms124_1 := NB246_221.out
                   have hms124_2 := NB246_222.out
                   have hms124_3 := NB246_227.out
                   have hms124_4 := NB246_228.out
                   have hs125 : w123.cell? ⟨gb246, 1, none⟩ = some (.int .i64 0) := bc BK246 1
                   have hfs125 := blk_frozen BK246.out 1
                   have hns125_0 := NB220_246.out
                   have hns125_1 := NB221_246.out
                   have hns125_2 := NB222_246.out
                   have hns125_3 := NB227_246.out
                   have hns125_4 := NB228_246.out
                   have hms125_0 := NB246_220.out
                   have hms125_1 := NB246_221.out
                   have hms125_2 := NB246_222.out
                   have hms125_3 := NB246_227.out
                   have hms125_4 := NB246_228.out
                   refine skip_ (w1 := ?_) (by rfl) rfl ?_ ?_
                   rotate_left
                   ·go_simp
                    rfl
                   refine hK.out _ _ ⟨((cell_far (p := ⟨gb246, _, none⟩) NB220_246.out _).trans (((cell_far (p := ⟨gb246, _, none⟩) NB220_246.out _).trans (hHeld.1)))), ((cell_far (p := ⟨gb246, _, none⟩) NB222_246.out _).trans (((cell_far (p := ⟨gb246, _, none⟩) NB222_246.out _).trans (hHeld.2.1)))), ((cell_far (p := ⟨gb246, _, none⟩) NB222_246.out _).trans (((cell_far (p := ⟨gb246, _, none⟩) NB222_246.out _).trans (hHeld.2.2.1)))), ((cell_far (p := ⟨gb246, _, none⟩) (by first | exact Kd.own_blk (Kd.R_ne HO_14.out BK246.out (by decide)) | (rw [add_block]; exact Kd.own_blk (Kd.R_ne HO_14.out BK246.out (by decide))) | (show (Addr.add _ _).block ≠ _; rw [add_block]; exact Kd.own_blk (Kd.R_ne HO_14.out BK246.out (by decide))) | (dsimp only; exact Kd.own_blk (Kd.R_ne HO_14.out BK246.out (by decide)))) _).trans (((cell_far (p := ⟨gb246, _, none⟩) (by first | exact Kd.own_blk (Kd.R_ne HO_14.out BK246.out (by decide)) | (rw [add_block]; exact Kd.own_blk (Kd.R_ne HO_14.out BK246.out (by decide))) | (show (Addr.add _ _).block ≠ _; rw [add_block]; exact Kd.own_blk (Kd.R_ne HO_14.out BK246.out (by decide))) | (dsimp only; exact Kd.own_blk (Kd.R_ne HO_14.out BK246.out (by decide)))) _).trans (hHeld.2.2.2.1)))), ((cell_far (p := ⟨gb246, _, none⟩) (by first | exact Kd.own_blk (Kd.R_ne HO_14.out BK246.out (by decide)) | (rw [add_block]; exact Kd.own_blk (Kd.R_ne HO_14.out BK246.out (by decide))) | (show (Addr.add _ _).block ≠ _; rw [add_block]; exact Kd.own_blk (Kd.R_ne HO_14.out BK246.out (by decide))) | (dsimp only; exact Kd.own_blk (Kd.R_ne HO_14.out BK246.out (by decide)))) _).trans (((cell_far (p := ⟨gb246, _, none⟩) (by first | exact Kd.own_blk (Kd.R_ne HO_14.out BK246.out (by decide)) | (rw [add_block]; exact Kd.own_blk (Kd.R_ne HO_14.out BK246.out (by decide))) | (show (Addr.add _ _).block ≠ _; rw [add_block]; exact Kd.own_blk (Kd.R_ne HO_14.out BK246.out (by decide))) | (dsimp only; exact Kd.own_blk (Kd.R_ne HO_14.out BK246.out (by decide)))) _).trans (hHeld.2.2.2.2))))⟩ (fun hHeld => ?_)
                   clear hK K
                   refine pure_ (i := 13) (N := some 18) (v := ?_) (a' := ?_) #[true, true, true, true, true, true, true, true, true, true, true, true, true, true] rfl rfl (any_of HT_.out (by kernel_rfl)) (fun _ _ _ h => h) (Or.inl ⟨by rfl, ?_⟩) ?_ ?_
                   rotate_left
                   ·intro w'
                    go_simp
                    with_reducible rfl
                   rotate_left
                   ·simp only [Act.put, List.setIfInBounds_toArray, List.set_cons_zero, List.set_cons_succ, i64_w, i32_w]
                    rfl
                   refine done_ (done_of HT_.out (by kernel_rfl)) ?_
                   try go_wp2_with (first | ((with_reducible refine gate_callee (f := 78) rfl ?_); refine goesL_ (some 113) rfl rfl Try.func78 (by kernel_rfl) rfl #[.int .i64 t245] rfl (by (try simp only [List.map_toArray, List.map_cons, List.map_nil]); first | done | rfl | (simp only [List.length_drop, List.length_take]; rfl)) ?_; (with_reducible refine (glebelaw06_num.calls t245 t247 _ A61.out).mono ?_); rintro e w' ⟨rfl, ⟨nd, rfl⟩⟩; refine ⟨_, rfl, ?_⟩))
                   go_roundg kj47
                   case measure => have := HK1.out; have := HJ18.out; have := HK3.out; have := HJ21.out; have := HK5.out; have := HJ47.out; omega
                   case rel => exact ⟨(x10_5), (wrap64 (x15_5 + 1)), (by first | rfl | (simp; done) | (simp [*]; done)), (by first | rfl | (simp; done) | (simp [*]; done)), H', ⟨by have := HK1.out; have := HJ18.out; have := HK3.out; have := HJ21.out; have := HK5.out; have := HJ47.out; omega⟩, ⟨by (with_reducible repeat (first | apply Kd.R_alloc | apply Kd.R_drewN | apply Kd.R_drew)); exact Kd.R_mono (Kd.R_far (p := ⟨gb246, 1, none⟩) (Kd.R_far (p := ⟨gb246, 0, none⟩) (Kd.R_types HO_14.out BK246.out (by decide)) (fun _ hk => hk.2) (.int .i64 t243)) (fun _ hk => hk.2) (.int .i64 t244)) (fun _ hk => ⟨hk.1.1, hk.1.2⟩)⟩, ⟨(bp1 BK220.out NB220_246.out)⟩, ⟨(bp1 BK221.out NB221_246.out)⟩, ⟨(bp1 BK222.out NB222_246.out)⟩, ⟨(bp1 BK227.out NB227_246.out)⟩, ⟨(bp1 BK228.out NB228_246.out)⟩, ⟨by exact q4 HB.out GE220.out GE221.out GE222.out GE227.out GE228.out GE246.out⟩⟩
                 ·rw [if_neg c59] at H
                  exact absurd H (by simp)
                ·rw [if_neg c58] at H
                 exact absurd H (by simp)
             ·rw [if_neg c47] at H
              have c47b0 : decide (x15_5 < 4) = false := decide_eq_false c47
              clear c47
              have H' := Aside0.mk H
              clear H
              go_wp2
              go_roundg k5
              case measure => have := HK1.out; have := HJ18.out; have := HK3.out; have := HJ21.out; have := HK5.out; omega
              case rel => exact ⟨(x10_5), (wrap64 (x12_3 + 1)), (by first | rfl | (simp; done) | (simp [*]; done)), (by first | rfl | (simp; done) | (simp [*]; done)), H', ⟨by have := HK1.out; have := HJ18.out; have := HK3.out; have := HJ21.out; have := HK5.out; omega⟩, ⟨by (with_reducible repeat (first | refine blk_drewN ?_ _ | refine blk_drew ?_ | refine blk_alloc ?_ _)); exact BK220.out⟩, ⟨by (with_reducible repeat (first | refine blk_drewN ?_ _ | refine blk_drew ?_ | refine blk_alloc ?_ _)); exact BK221.out⟩, ⟨by (with_reducible repeat (first | refine blk_drewN ?_ _ | refine blk_drew ?_ | refine blk_alloc ?_ _)); exact BK222.out⟩, ⟨by (with_reducible repeat (first | refine blk_drewN ?_ _ | refine blk_drew ?_ | refine blk_alloc ?_ _)); exact BK227.out⟩, ⟨by exact q3 HB.out GE220.out GE221.out GE222.out GE227.out GE228.out⟩⟩
          ·replace c24 := Bool.eq_false_iff.mpr c24
           subst c24
           have H1 : (glebelaw06_cells.l0 kj21 t225 t226 x10_3 (wrap64 (x11_1 + 1)) a0_0 a2_0 a2_1 t223 t224) = some r := by rw [if_neg (show ¬ (false = true) by decide)] at H; exact H
           clear H
           have H := H1
           clear H1
           have H' := Aside0.mk H
           clear H
           go_wp2
           go_roundg kj21
           case measure => have := HK1.out; have := HJ18.out; have := HK3.out; have := HJ21.out; omega
           case rel => exact ⟨(x10_3), (wrap64 (x11_1 + 1)), (by first | rfl | (simp; done) | (simp [*]; done)), (by first | rfl | (simp; done) | (simp [*]; done)), H', ⟨by have := HK1.out; have := HJ18.out; have := HK3.out; have := HJ21.out; omega⟩, ⟨by (with_reducible repeat (first | refine blk_drewN ?_ _ | refine blk_drew ?_ | refine blk_alloc ?_ _)); exact BK220.out⟩, ⟨by (with_reducible repeat (first | refine blk_drewN ?_ _ | refine blk_drew ?_ | refine blk_alloc ?_ _)); exact BK221.out⟩, ⟨by (with_reducible repeat (first | refine blk_drewN ?_ _ | refine blk_drew ?_ | refine blk_alloc ?_ _)); exact BK222.out⟩, ⟨by (with_reducible repeat (first | refine blk_drewN ?_ _ | refine blk_drew ?_ | refine blk_alloc ?_ _)); exact BK227.out⟩, ⟨by exact q2 HB.out GE220.out GE221.out GE222.out GE227.out⟩⟩
     ·replace c21 := Bool.eq_false_iff.mpr c21
      subst c21
      have H1 : (some x10_1) = some r := by rw [if_neg (show ¬ (false = true) by decide)] at H; exact H
      clear H
      have H := H1
      clear H1
      obtain rfl := Option.some.inj H
      go_wp2
      go_ret
      exact ⟨by first | rfl | (simp [errW_none, errW_some] <;> rfl) | (simp [*, errW_none, errW_some] <;> rfl), by exact q2 HB.out GE220.out GE221.out GE222.out GE227.out⟩

end Go.Proofs.Ytjdmnlbnaogcdaa.PC
