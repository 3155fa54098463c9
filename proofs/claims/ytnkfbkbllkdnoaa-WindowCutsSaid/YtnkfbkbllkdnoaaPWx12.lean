-- Written by a program of this session (wip/tools/hp.py) over the kit's print; nothing here is trusted: Lean checks it.
import Derived.Test.YtnkfbkbllkdnoaaPWx0
import Derived.Test.YtnkfbkbllkdnoaaPWx2
import Derived.Test.YtnkfbkbllkdnoaaPWx1
import Derived.Test.YtnkfbkbllkdnoaaPWx9
import Derived.Test.YtnkfbkbllkdnoaaPWx11
namespace Go.Proofs.Ytnkfbkbllkdnoaa.PW
open Go.RowKit Go.Proofs.YtnkfbkbllkdnoaaW.PrintWords Go.Proofs.YtnkfbkbllkdnoaaW.PrintLast Go.Proofs.YtnkfbkbllkdnoaaW.PrintMore
attribute [local go_sem] max2_int min2_int max_two min_two max_three min_three max_four min_four   -- for this text's walks alone
set_option linter.unusedVariables false
set_option linter.unusedSimpArgs false

/-! ### glebelaw04_WindowCuts: function 5 -/
def glebelaw04_WindowCuts.f (k : Nat) (a0 : Int) (a1_0 : Int) (a1_1 : Int) (a1_2 : Int) (a1_3 : Int) (a2_0 : Int) (a2_1 : Int) (a3_0 : Int) (a3_1 : Int) : Option (Bool) := (glebelaw04_Own.f a1_0 a1_1 a1_2 a1_3).bind fun bt400 => ((window_Plain.f k a0 bt400.1 bt400.2.1 bt400.2.2.1 bt400.2.2.2).bind fun bt404 => ((gleberef04_Plain.f k a0 a1_0 a1_1 a1_2 a1_3).bind fun bt408 => ((glebelaw04_Same.f k bt404.1 bt408.1).bind fun t412 => (if t412 = true then ((glebelaw04_num.f bt404.2).bind fun t413 => (if t413 = bt408.2 then ((glebelaw04_Own.f a1_0 a1_1 a1_2 a1_3).bind fun bt414 => ((window_Cut.f k a0 bt414.1 bt414.2.1 bt414.2.2.1 bt414.2.2.2 a2_0 a2_1).bind fun t418 => ((gleberef04_Cut.f k a0 a1_0 a1_1 a1_2 a1_3 a2_0 a2_1).bind fun t421 => ((glebelaw04_Same.f k t418 t421).bind fun t424 => (if t424 = true then ((glebelaw04_Own.f a1_0 a1_1 a1_2 a1_3).bind fun bt425 => ((window_Covers.f k a0 bt425.1 bt425.2.1 bt425.2.2.1 bt425.2.2.2 a2_0 a2_1).bind fun t429 => ((gleberef04_Covers.f k a0 a1_0 a1_1 a1_2 a1_3 a2_0 a2_1).bind fun t430 => (if (t429 == t430) = true then ((glebelaw04_Own.f a1_0 a1_1 a1_2 a1_3).bind fun bt431 => ((window_Dist.f k a0 bt431.1 bt431.2.1 bt431.2.2.1 bt431.2.2.2 a3_0 a3_1).bind fun t435 => ((gleberef04_Dist.f k a0 a1_0 a1_1 a1_2 a1_3 a3_0 a3_1).bind fun t436 => (if t435 = t436 then ((glebelaw04_knows.f k).bind fun t437 => (some t437)) else (none))))) else (none))))) else (none)))))) else (none))) else (none)))))
theorem glebelaw04_WindowCuts.mono : ∀ a0 a1 a2 a3 a4 a5 a6 a7 a8 k, LeO (glebelaw04_WindowCuts.f k a0 a1 a2 a3 a4 a5 a6 a7 a8) (glebelaw04_WindowCuts.f (k + 1) a0 a1 a2 a3 a4 a5 a6 a7 a8) := by
 intro a0 a1 a2 a3 a4 a5 a6 a7 a8 k
 unfold glebelaw04_WindowCuts.f
 repeat' first
   | (with_reducible exact glebelaw04_Same.mono _ _ _)
   | (with_reducible exact glebelaw04_knows.mono _)
   | (with_reducible exact gleberef04_Covers.mono _ _ _ _ _ _ _ _)
   | (with_reducible exact gleberef04_Cut.mono _ _ _ _ _ _ _ _)
   | (with_reducible exact gleberef04_Dist.mono _ _ _ _ _ _ _ _)
   | (with_reducible exact gleberef04_Plain.mono _ _ _ _ _ _)
   | (with_reducible exact window_Covers.mono _ _ _ _ _ _ _ _)
   | (with_reducible exact window_Cut.mono _ _ _ _ _ _ _ _)
   | (with_reducible exact window_Dist.mono _ _ _ _ _ _ _ _)
   | (with_reducible exact window_Plain.mono _ _ _ _ _ _)
   | (with_reducible exact LeO.refl _)
   | (with_reducible exact LeO.none _)
   | (with_reducible refine LeO.ite ?_ ?_)
   | (with_reducible refine LeO.bind ?_ (fun _ => ?_))
   | exact glebelaw04_Same.mono _ _ _
   | exact glebelaw04_knows.mono _
   | exact gleberef04_Covers.mono _ _ _ _ _ _ _ _
   | exact gleberef04_Cut.mono _ _ _ _ _ _ _ _
   | exact gleberef04_Dist.mono _ _ _ _ _ _ _ _
   | exact gleberef04_Plain.mono _ _ _ _ _ _
   | exact window_Covers.mono _ _ _ _ _ _ _ _
   | exact window_Cut.mono _ _ _ _ _ _ _ _
   | exact window_Dist.mono _ _ _ _ _ _ _ _
   | exact window_Plain.mono _ _ _ _ _ _
   | exact LeO.none _
   | refine LeO.ite ?_ ?_
   | refine LeO.bind ?_ (fun _ => ?_)
def glebelaw04_WindowCuts.T2 : Bool × List (List Nat × List Nat) := (true, [([], []), ([], []), ([1], [1]), ([0, 2, 2], [0, 2]), ([3], [3]), ([4], [4]), ([4], [4]), ([5, 3, 0, 1, 2, 3, 4, 5], [5]), ([6, 7, 0, 1, 2, 3, 4, 5, 6, 7], [6])])
def glebelaw04_WindowCuts.B2 : List Nat := [0, 0, 2, 7, 15, 31, 31, 63, 255]
theorem glebelaw04_WindowCuts.tab2 : rtab .any (opsOf Try.f5 2) = glebelaw04_WindowCuts.T2 := by kernel_rfl
theorem glebelaw04_WindowCuts.bits2 : waitsOk glebelaw04_WindowCuts.T2.2 glebelaw04_WindowCuts.B2 = true := by kernel_rfl
def glebelaw04_WindowCuts.T4 : Bool × List (List Nat × List Nat) := (true, [([], []), ([], []), ([0, 1], [0, 1]), ([2, 2], [2]), ([3], [3]), ([4, 3, 3], [3, 4]), ([3], [3]), ([5, 6, 3], [3, 5, 6]), ([3, 7], [3, 7]), ([8, 5], [8]), ([9], [9]), ([9], [9]), ([11, 9, 9], [9, 11]), ([9], [9]), ([10, 12, 13, 12, 9], [9, 10, 12, 13]), ([9], [9]), ([9], [9]), ([9], [9]), ([15, 16, 17, 14, 9], [9, 15, 16, 17]), ([14, 18, 18, 9], [9, 14, 18]), ([9, 19], [9, 19]), ([20, 19], [20]), ([21], [21]), ([21], [21]), ([23, 21, 21], [21, 23]), ([21], [21]), ([22, 24, 25, 24, 21], [21, 22, 24, 25]), ([21], [21]), ([21], [21]), ([21], [21]), ([27, 28, 29, 26, 21], [21, 27, 28, 29]), ([26, 30, 21], [21, 26, 30]), ([21, 31], [21, 31]), ([32, 30], [32]), ([33], [33]), ([33], [33]), ([35, 33, 33], [33, 35]), ([33], [33]), ([34, 36, 37, 36, 33], [33, 34, 36, 37]), ([33], [33]), ([33], [33]), ([33], [33]), ([39, 40, 41, 38, 33], [33, 39, 40, 41]), ([38, 42, 33], [33, 38, 42]), ([33, 43], [33, 43]), ([44, 42], [44]), ([45, 45], [45]), ([45, 46], [45, 46]), ([47, 46, 0, 1, 2, 3, 4, 5, 6, 7, 8, 9, 10, 11, 12, 13, 14, 15, 16, 17, 18, 19, 20, 21, 22, 23, 24, 25, 26, 27, 28, 29, 30, 31, 32, 33, 34, 35, 36, 37, 38, 39, 40, 41, 42, 43, 44, 45, 46, 47], [47])])
def glebelaw04_WindowCuts.B4 : List Nat := [0, 0, 3, 7, 15, 31, 15, 127, 255, 511, 1023, 1023, 3071, 1023, 16383, 1023, 1023, 1023, 262143, 524287, 1048575, 2097151, 4194303, 4194303, 12582911, 4194303, 67108863, 4194303, 4194303, 4194303, 1073741823, 2147483647, 4294967295, 8589934591, 17179869183, 17179869183, 51539607551, 17179869183, 274877906943, 17179869183, 17179869183, 17179869183, 4398046511103, 8796093022207, 17592186044415, 35184372088831, 70368744177663, 140737488355327, 281474976710655]
theorem glebelaw04_WindowCuts.tab4 : rtab .any (opsOf Try.f5 4) = glebelaw04_WindowCuts.T4 := by kernel_rfl
theorem glebelaw04_WindowCuts.bits4 : waitsOk glebelaw04_WindowCuts.T4.2 glebelaw04_WindowCuts.B4 = true := by kernel_rfl
set_option maxHeartbeats 8000000 in
set_option maxRecDepth 100000 in
theorem glebelaw04_WindowCuts.calls (k : Nat) (a0 : Int) (a1_0 : Int) (a1_1 : Int) (a1_2 : Int) (a1_3 : Int) (a2_0 : Int) (a2_1 : Int) (a3_0 : Int) (a3_1 : Int) (r : Bool) (w : World) (h : glebelaw04_WindowCuts.f k a0 a1_0 a1_1 a1_2 a1_3 a2_0 a2_1 a3_0 a3_1 = some r) :
  Calls Try.prog 5 #[.int .i64 a0, .agg #[.int .i64 a1_0, .int .i64 a1_1, .int .i64 a1_2, .int .i64 a1_3], .agg #[.int .i64 a2_0, .int .i64 a2_1], .agg #[.int .i64 a3_0, .int .i64 a3_1]] w fun e w' => e = .returned (.bool r) ∧ Below w.heap.size w w' := by
 have hu23 := Try.underlying23
 have hu47 := Try.underlying47
 have hu25 := Try.underlying25
 have hu27 := Try.underlying27
 have HB := Aside0.mk (Below.refl w.heap.size w)
 have H : ((glebelaw04_Own.f a1_0 a1_1 a1_2 a1_3).bind fun bt400 => ((window_Plain.f k a0 bt400.1 bt400.2.1 bt400.2.2.1 bt400.2.2.2).bind fun bt404 => ((gleberef04_Plain.f k a0 a1_0 a1_1 a1_2 a1_3).bind fun bt408 => ((glebelaw04_Same.f k bt404.1 bt408.1).bind fun t412 => (if t412 = true then ((glebelaw04_num.f bt404.2).bind fun t413 => (if t413 = bt408.2 then ((glebelaw04_Own.f a1_0 a1_1 a1_2 a1_3).bind fun bt414 => ((window_Cut.f k a0 bt414.1 bt414.2.1 bt414.2.2.1 bt414.2.2.2 a2_0 a2_1).bind fun t418 => ((gleberef04_Cut.f k a0 a1_0 a1_1 a1_2 a1_3 a2_0 a2_1).bind fun t421 => ((glebelaw04_Same.f k t418 t421).bind fun t424 => (if t424 = true then ((glebelaw04_Own.f a1_0 a1_1 a1_2 a1_3).bind fun bt425 => ((window_Covers.f k a0 bt425.1 bt425.2.1 bt425.2.2.1 bt425.2.2.2 a2_0 a2_1).bind fun t429 => ((gleberef04_Covers.f k a0 a1_0 a1_1 a1_2 a1_3 a2_0 a2_1).bind fun t430 => (if (t429 == t430) = true then ((glebelaw04_Own.f a1_0 a1_1 a1_2 a1_3).bind fun bt431 => ((window_Dist.f k a0 bt431.1 bt431.2.1 bt431.2.2.1 bt431.2.2.2 a3_0 a3_1).bind fun t435 => ((gleberef04_Dist.f k a0 a1_0 a1_1 a1_2 a1_3 a3_0 a3_1).bind fun t436 => (if t435 = t436 then ((glebelaw04_knows.f k).bind fun t437 => (some t437)) else (none))))) else (none))))) else (none)))))) else (none))) else (none)))))) = some r := h
 clear h
 replace H := Option.bind_eq_some_iff.mp H
 obtain ⟨⟨t400, t401, t402, t403⟩, A50, H⟩ := H
 replace H : ((window_Plain.f k a0 t400 t401 t402 t403).bind fun bt404 => ((gleberef04_Plain.f k a0 a1_0 a1_1 a1_2 a1_3).bind fun bt408 => ((glebelaw04_Same.f k bt404.1 bt408.1).bind fun t412 => (if t412 = true then ((glebelaw04_num.f bt404.2).bind fun t413 => (if t413 = bt408.2 then ((glebelaw04_Own.f a1_0 a1_1 a1_2 a1_3).bind fun bt414 => ((window_Cut.f k a0 bt414.1 bt414.2.1 bt414.2.2.1 bt414.2.2.2 a2_0 a2_1).bind fun t418 => ((gleberef04_Cut.f k a0 a1_0 a1_1 a1_2 a1_3 a2_0 a2_1).bind fun t421 => ((glebelaw04_Same.f k t418 t421).bind fun t424 => (if t424 = true then ((glebelaw04_Own.f a1_0 a1_1 a1_2 a1_3).bind fun bt425 => ((window_Covers.f k a0 bt425.1 bt425.2.1 bt425.2.2.1 bt425.2.2.2 a2_0 a2_1).bind fun t429 => ((gleberef04_Covers.f k a0 a1_0 a1_1 a1_2 a1_3 a2_0 a2_1).bind fun t430 => (if (t429 == t430) = true then ((glebelaw04_Own.f a1_0 a1_1 a1_2 a1_3).bind fun bt431 => ((window_Dist.f k a0 bt431.1 bt431.2.1 bt431.2.2.1 bt431.2.2.2 a3_0 a3_1).bind fun t435 => ((gleberef04_Dist.f k a0 a1_0 a1_1 a1_2 a1_3 a3_0 a3_1).bind fun t436 => (if t435 = t436 then ((glebelaw04_knows.f k).bind fun t437 => (some t437)) else (none))))) else (none))))) else (none)))))) else (none))) else (none))))) = some r := H
 have A5 := Aside0.mk A50
 clear A50
 replace H := Option.bind_eq_some_iff.mp H
 obtain ⟨⟨t404, t407⟩, A60, H⟩ := H
 replace H : ((gleberef04_Plain.f k a0 a1_0 a1_1 a1_2 a1_3).bind fun bt408 => ((glebelaw04_Same.f k t404 bt408.1).bind fun t412 => (if t412 = true then ((glebelaw04_num.f t407).bind fun t413 => (if t413 = bt408.2 then ((glebelaw04_Own.f a1_0 a1_1 a1_2 a1_3).bind fun bt414 => ((window_Cut.f k a0 bt414.1 bt414.2.1 bt414.2.2.1 bt414.2.2.2 a2_0 a2_1).bind fun t418 => ((gleberef04_Cut.f k a0 a1_0 a1_1 a1_2 a1_3 a2_0 a2_1).bind fun t421 => ((glebelaw04_Same.f k t418 t421).bind fun t424 => (if t424 = true then ((glebelaw04_Own.f a1_0 a1_1 a1_2 a1_3).bind fun bt425 => ((window_Covers.f k a0 bt425.1 bt425.2.1 bt425.2.2.1 bt425.2.2.2 a2_0 a2_1).bind fun t429 => ((gleberef04_Covers.f k a0 a1_0 a1_1 a1_2 a1_3 a2_0 a2_1).bind fun t430 => (if (t429 == t430) = true then ((glebelaw04_Own.f a1_0 a1_1 a1_2 a1_3).bind fun bt431 => ((window_Dist.f k a0 bt431.1 bt431.2.1 bt431.2.2.1 bt431.2.2.2 a3_0 a3_1).bind fun t435 => ((gleberef04_Dist.f k a0 a1_0 a1_1 a1_2 a1_3 a3_0 a3_1).bind fun t436 => (if t435 = t436 then ((glebelaw04_knows.f k).bind fun t437 => (some t437)) else (none))))) else (none))))) else (none)))))) else (none))) else (none)))) = some r := H
 have A6 := Aside0.mk A60
 clear A60
 replace H := Option.bind_eq_some_iff.mp H
 obtain ⟨⟨t408, t411⟩, A70, H⟩ := H
 replace H : ((glebelaw04_Same.f k t404 t408).bind fun t412 => (if t412 = true then ((glebelaw04_num.f t407).bind fun t413 => (if t413 = t411 then ((glebelaw04_Own.f a1_0 a1_1 a1_2 a1_3).bind fun bt414 => ((window_Cut.f k a0 bt414.1 bt414.2.1 bt414.2.2.1 bt414.2.2.2 a2_0 a2_1).bind fun t418 => ((gleberef04_Cut.f k a0 a1_0 a1_1 a1_2 a1_3 a2_0 a2_1).bind fun t421 => ((glebelaw04_Same.f k t418 t421).bind fun t424 => (if t424 = true then ((glebelaw04_Own.f a1_0 a1_1 a1_2 a1_3).bind fun bt425 => ((window_Covers.f k a0 bt425.1 bt425.2.1 bt425.2.2.1 bt425.2.2.2 a2_0 a2_1).bind fun t429 => ((gleberef04_Covers.f k a0 a1_0 a1_1 a1_2 a1_3 a2_0 a2_1).bind fun t430 => (if (t429 == t430) = true then ((glebelaw04_Own.f a1_0 a1_1 a1_2 a1_3).bind fun bt431 => ((window_Dist.f k a0 bt431.1 bt431.2.1 bt431.2.2.1 bt431.2.2.2 a3_0 a3_1).bind fun t435 => ((gleberef04_Dist.f k a0 a1_0 a1_1 a1_2 a1_3 a3_0 a3_1).bind fun t436 => (if t435 = t436 then ((glebelaw04_knows.f k).bind fun t437 => (some t437)) else (none))))) else (none))))) else (none)))))) else (none))) else (none))) = some r := H
 have A7 := Aside0.mk A70
 clear A70
 replace H := Option.bind_eq_some_iff.mp H
 obtain ⟨t412, A80, H⟩ := H
 replace H : (if t412 = true then ((glebelaw04_num.f t407).bind fun t413 => (if t413 = t411 then ((glebelaw04_Own.f a1_0 a1_1 a1_2 a1_3).bind fun bt414 => ((window_Cut.f k a0 bt414.1 bt414.2.1 bt414.2.2.1 bt414.2.2.2 a2_0 a2_1).bind fun t418 => ((gleberef04_Cut.f k a0 a1_0 a1_1 a1_2 a1_3 a2_0 a2_1).bind fun t421 => ((glebelaw04_Same.f k t418 t421).bind fun t424 => (if t424 = true then ((glebelaw04_Own.f a1_0 a1_1 a1_2 a1_3).bind fun bt425 => ((window_Covers.f k a0 bt425.1 bt425.2.1 bt425.2.2.1 bt425.2.2.2 a2_0 a2_1).bind fun t429 => ((gleberef04_Covers.f k a0 a1_0 a1_1 a1_2 a1_3 a2_0 a2_1).bind fun t430 => (if (t429 == t430) = true then ((glebelaw04_Own.f a1_0 a1_1 a1_2 a1_3).bind fun bt431 => ((window_Dist.f k a0 bt431.1 bt431.2.1 bt431.2.2.1 bt431.2.2.2 a3_0 a3_1).bind fun t435 => ((gleberef04_Dist.f k a0 a1_0 a1_1 a1_2 a1_3 a3_0 a3_1).bind fun t436 => (if t435 = t436 then ((glebelaw04_knows.f k).bind fun t437 => (some t437)) else (none))))) else (none))))) else (none)))))) else (none))) else (none)) = some r := H
 have A8 := Aside0.mk A80
 clear A80
 by_cases c9 : t412 = true
 ·subst c9
  have H1 : ((glebelaw04_num.f t407).bind fun t413 => (if t413 = t411 then ((glebelaw04_Own.f a1_0 a1_1 a1_2 a1_3).bind fun bt414 => ((window_Cut.f k a0 bt414.1 bt414.2.1 bt414.2.2.1 bt414.2.2.2 a2_0 a2_1).bind fun t418 => ((gleberef04_Cut.f k a0 a1_0 a1_1 a1_2 a1_3 a2_0 a2_1).bind fun t421 => ((glebelaw04_Same.f k t418 t421).bind fun t424 => (if t424 = true then ((glebelaw04_Own.f a1_0 a1_1 a1_2 a1_3).bind fun bt425 => ((window_Covers.f k a0 bt425.1 bt425.2.1 bt425.2.2.1 bt425.2.2.2 a2_0 a2_1).bind fun t429 => ((gleberef04_Covers.f k a0 a1_0 a1_1 a1_2 a1_3 a2_0 a2_1).bind fun t430 => (if (t429 == t430) = true then ((glebelaw04_Own.f a1_0 a1_1 a1_2 a1_3).bind fun bt431 => ((window_Dist.f k a0 bt431.1 bt431.2.1 bt431.2.2.1 bt431.2.2.2 a3_0 a3_1).bind fun t435 => ((gleberef04_Dist.f k a0 a1_0 a1_1 a1_2 a1_3 a3_0 a3_1).bind fun t436 => (if t435 = t436 then ((glebelaw04_knows.f k).bind fun t437 => (some t437)) else (none))))) else (none))))) else (none)))))) else (none))) = some r := by rw [if_pos rfl] at H; exact H
  clear H
  have H := H1
  clear H1
  replace H := Option.bind_eq_some_iff.mp H
  obtain ⟨t413, A100, H⟩ := H
  replace H : (if t413 = t411 then ((glebelaw04_Own.f a1_0 a1_1 a1_2 a1_3).bind fun bt414 => ((window_Cut.f k a0 bt414.1 bt414.2.1 bt414.2.2.1 bt414.2.2.2 a2_0 a2_1).bind fun t418 => ((gleberef04_Cut.f k a0 a1_0 a1_1 a1_2 a1_3 a2_0 a2_1).bind fun t421 => ((glebelaw04_Same.f k t418 t421).bind fun t424 => (if t424 = true then ((glebelaw04_Own.f a1_0 a1_1 a1_2 a1_3).bind fun bt425 => ((window_Covers.f k a0 bt425.1 bt425.2.1 bt425.2.2.1 bt425.2.2.2 a2_0 a2_1).bind fun t429 => ((gleberef04_Covers.f k a0 a1_0 a1_1 a1_2 a1_3 a2_0 a2_1).bind fun t430 => (if (t429 == t430) = true then ((glebelaw04_Own.f a1_0 a1_1 a1_2 a1_3).bind fun bt431 => ((window_Dist.f k a0 bt431.1 bt431.2.1 bt431.2.2.1 bt431.2.2.2 a3_0 a3_1).bind fun t435 => ((gleberef04_Dist.f k a0 a1_0 a1_1 a1_2 a1_3 a3_0 a3_1).bind fun t436 => (if t435 = t436 then ((glebelaw04_knows.f k).bind fun t437 => (some t437)) else (none))))) else (none))))) else (none)))))) else (none)) = some r := H
  have A10 := Aside0.mk A100
  clear A100
  by_cases c11 : t413 = t411
  ·rw [if_pos c11] at H
   have c11b0 : (t413 == t411) = true := beq_iff_eq.mpr c11
   have c11b1 : (t413 != t411) = false := bne_eq_false_iff_eq.mpr c11
   clear c11
   replace H := Option.bind_eq_some_iff.mp H
   obtain ⟨⟨t414, t415, t416, t417⟩, A120, H⟩ := H
   replace H : ((window_Cut.f k a0 t414 t415 t416 t417 a2_0 a2_1).bind fun t418 => ((gleberef04_Cut.f k a0 a1_0 a1_1 a1_2 a1_3 a2_0 a2_1).bind fun t421 => ((glebelaw04_Same.f k t418 t421).bind fun t424 => (if t424 = true then ((glebelaw04_Own.f a1_0 a1_1 a1_2 a1_3).bind fun bt425 => ((window_Covers.f k a0 bt425.1 bt425.2.1 bt425.2.2.1 bt425.2.2.2 a2_0 a2_1).bind fun t429 => ((gleberef04_Covers.f k a0 a1_0 a1_1 a1_2 a1_3 a2_0 a2_1).bind fun t430 => (if (t429 == t430) = true then ((glebelaw04_Own.f a1_0 a1_1 a1_2 a1_3).bind fun bt431 => ((window_Dist.f k a0 bt431.1 bt431.2.1 bt431.2.2.1 bt431.2.2.2 a3_0 a3_1).bind fun t435 => ((gleberef04_Dist.f k a0 a1_0 a1_1 a1_2 a1_3 a3_0 a3_1).bind fun t436 => (if t435 = t436 then ((glebelaw04_knows.f k).bind fun t437 => (some t437)) else (none))))) else (none))))) else (none))))) = some r := H
   have A12 := Aside0.mk A120
   clear A120
   replace H := Option.bind_eq_some_iff.mp H
   obtain ⟨t418, A130, H⟩ := H
   replace H : ((gleberef04_Cut.f k a0 a1_0 a1_1 a1_2 a1_3 a2_0 a2_1).bind fun t421 => ((glebelaw04_Same.f k t418 t421).bind fun t424 => (if t424 = true then ((glebelaw04_Own.f a1_0 a1_1 a1_2 a1_3).bind fun bt425 => ((window_Covers.f k a0 bt425.1 bt425.2.1 bt425.2.2.1 bt425.2.2.2 a2_0 a2_1).bind fun t429 => ((gleberef04_Covers.f k a0 a1_0 a1_1 a1_2 a1_3 a2_0 a2_1).bind fun t430 => (if (t429 == t430) = true then ((glebelaw04_Own.f a1_0 a1_1 a1_2 a1_3).bind fun bt431 => ((window_Dist.f k a0 bt431.1 bt431.2.1 bt431.2.2.1 bt431.2.2.2 a3_0 a3_1).bind fun t435 => ((gleberef04_Dist.f k a0 a1_0 a1_1 a1_2 a1_3 a3_0 a3_1).bind fun t436 => (if t435 = t436 then ((glebelaw04_knows.f k).bind fun t437 => (some t437)) else (none))))) else (none))))) else (none)))) = some r := H
   have A13 := Aside0.mk A130
   clear A130
   replace H := Option.bind_eq_some_iff.mp H
   obtain ⟨t421, A140, H⟩ := H
   replace H : ((glebelaw04_Same.f k t418 t421).bind fun t424 => (if t424 = true then ((glebelaw04_Own.f a1_0 a1_1 a1_2 a1_3).bind fun bt425 => ((window_Covers.f k a0 bt425.1 bt425.2.1 bt425.2.2.1 bt425.2.2.2 a2_0 a2_1).bind fun t429 => ((gleberef04_Covers.f k a0 a1_0 a1_1 a1_2 a1_3 a2_0 a2_1).bind fun t430 => (if (t429 == t430) = true then ((glebelaw04_Own.f a1_0 a1_1 a1_2 a1_3).bind fun bt431 => ((window_Dist.f k a0 bt431.1 bt431.2.1 bt431.2.2.1 bt431.2.2.2 a3_0 a3_1).bind fun t435 => ((gleberef04_Dist.f k a0 a1_0 a1_1 a1_2 a1_3 a3_0 a3_1).bind fun t436 => (if t435 = t436 then ((glebelaw04_knows.f k).bind fun t437 => (some t437)) else (none))))) else (none))))) else (none))) = some r := H
   have A14 := Aside0.mk A140
   clear A140
   replace H := Option.bind_eq_some_iff.mp H
   obtain ⟨t424, A150, H⟩ := H
   replace H : (if t424 = true then ((glebelaw04_Own.f a1_0 a1_1 a1_2 a1_3).bind fun bt425 => ((window_Covers.f k a0 bt425.1 bt425.2.1 bt425.2.2.1 bt425.2.2.2 a2_0 a2_1).bind fun t429 => ((gleberef04_Covers.f k a0 a1_0 a1_1 a1_2 a1_3 a2_0 a2_1).bind fun t430 => (if (t429 == t430) = true then ((glebelaw04_Own.f a1_0 a1_1 a1_2 a1_3).bind fun bt431 => ((window_Dist.f k a0 bt431.1 bt431.2.1 bt431.2.2.1 bt431.2.2.2 a3_0 a3_1).bind fun t435 => ((gleberef04_Dist.f k a0 a1_0 a1_1 a1_2 a1_3 a3_0 a3_1).bind fun t436 => (if t435 = t436 then ((glebelaw04_knows.f k).bind fun t437 => (some t437)) else (none))))) else (none))))) else (none)) = some r := H
   have A15 := Aside0.mk A150
   clear A150
   by_cases c16 : t424 = true
   ·subst c16
    have H1 : ((glebelaw04_Own.f a1_0 a1_1 a1_2 a1_3).bind fun bt425 => ((window_Covers.f k a0 bt425.1 bt425.2.1 bt425.2.2.1 bt425.2.2.2 a2_0 a2_1).bind fun t429 => ((gleberef04_Covers.f k a0 a1_0 a1_1 a1_2 a1_3 a2_0 a2_1).bind fun t430 => (if (t429 == t430) = true then ((glebelaw04_Own.f a1_0 a1_1 a1_2 a1_3).bind fun bt431 => ((window_Dist.f k a0 bt431.1 bt431.2.1 bt431.2.2.1 bt431.2.2.2 a3_0 a3_1).bind fun t435 => ((gleberef04_Dist.f k a0 a1_0 a1_1 a1_2 a1_3 a3_0 a3_1).bind fun t436 => (if t435 = t436 then ((glebelaw04_knows.f k).bind fun t437 => (some t437)) else (none))))) else (none))))) = some r := by rw [if_pos rfl] at H; exact H
    clear H
    have H := H1
    clear H1
    replace H := Option.bind_eq_some_iff.mp H
    obtain ⟨⟨t425, t426, t427, t428⟩, A170, H⟩ := H
    replace H : ((window_Covers.f k a0 t425 t426 t427 t428 a2_0 a2_1).bind fun t429 => ((gleberef04_Covers.f k a0 a1_0 a1_1 a1_2 a1_3 a2_0 a2_1).bind fun t430 => (if (t429 == t430) = true then ((glebelaw04_Own.f a1_0 a1_1 a1_2 a1_3).bind fun bt431 => ((window_Dist.f k a0 bt431.1 bt431.2.1 bt431.2.2.1 bt431.2.2.2 a3_0 a3_1).bind fun t435 => ((gleberef04_Dist.f k a0 a1_0 a1_1 a1_2 a1_3 a3_0 a3_1).bind fun t436 => (if t435 = t436 then ((glebelaw04_knows.f k).bind fun t437 => (some t437)) else (none))))) else (none)))) = some r := H
    have A17 := Aside0.mk A170
    clear A170
    replace H := Option.bind_eq_some_iff.mp H
    obtain ⟨t429, A180, H⟩ := H
    replace H : ((gleberef04_Covers.f k a0 a1_0 a1_1 a1_2 a1_3 a2_0 a2_1).bind fun t430 => (if (t429 == t430) = true then ((glebelaw04_Own.f a1_0 a1_1 a1_2 a1_3).bind fun bt431 => ((window_Dist.f k a0 bt431.1 bt431.2.1 bt431.2.2.1 bt431.2.2.2 a3_0 a3_1).bind fun t435 => ((gleberef04_Dist.f k a0 a1_0 a1_1 a1_2 a1_3 a3_0 a3_1).bind fun t436 => (if t435 = t436 then ((glebelaw04_knows.f k).bind fun t437 => (some t437)) else (none))))) else (none))) = some r := H
    have A18 := Aside0.mk A180
    clear A180
    replace H := Option.bind_eq_some_iff.mp H
    obtain ⟨t430, A190, H⟩ := H
    replace H : (if (t429 == t430) = true then ((glebelaw04_Own.f a1_0 a1_1 a1_2 a1_3).bind fun bt431 => ((window_Dist.f k a0 bt431.1 bt431.2.1 bt431.2.2.1 bt431.2.2.2 a3_0 a3_1).bind fun t435 => ((gleberef04_Dist.f k a0 a1_0 a1_1 a1_2 a1_3 a3_0 a3_1).bind fun t436 => (if t435 = t436 then ((glebelaw04_knows.f k).bind fun t437 => (some t437)) else (none))))) else (none)) = some r := H
    have A19 := Aside0.mk A190
    clear A190
    by_cases c20 : (t429 == t430) = true
    ·rw [if_pos c20] at H
     have c20b0 : (t429 == t430) = true := c20
     (try (have c20b1 : decide (t429 = t430) = true := by simpa using c20))
     (try (have c20b2 : (t429 == t430) = true := by simpa using c20))
     clear c20
     replace H := Option.bind_eq_some_iff.mp H
     obtain ⟨⟨t431, t432, t433, t434⟩, A210, H⟩ := H
     replace H : ((window_Dist.f k a0 t431 t432 t433 t434 a3_0 a3_1).bind fun t435 => ((gleberef04_Dist.f k a0 a1_0 a1_1 a1_2 a1_3 a3_0 a3_1).bind fun t436 => (if t435 = t436 then ((glebelaw04_knows.f k).bind fun t437 => (some t437)) else (none)))) = some r := H
     have A21 := Aside0.mk A210
     clear A210
     replace H := Option.bind_eq_some_iff.mp H
     obtain ⟨t435, A220, H⟩ := H
     replace H : ((gleberef04_Dist.f k a0 a1_0 a1_1 a1_2 a1_3 a3_0 a3_1).bind fun t436 => (if t435 = t436 then ((glebelaw04_knows.f k).bind fun t437 => (some t437)) else (none))) = some r := H
     have A22 := Aside0.mk A220
     clear A220
     replace H := Option.bind_eq_some_iff.mp H
     obtain ⟨t436, A230, H⟩ := H
     replace H : (if t435 = t436 then ((glebelaw04_knows.f k).bind fun t437 => (some t437)) else (none)) = some r := H
     have A23 := Aside0.mk A230
     clear A230
     by_cases c24 : t435 = t436
     ·rw [if_pos c24] at H
      have c24b0 : (t435 == t436) = true := beq_iff_eq.mpr c24
      have c24b1 : (t435 != t436) = false := bne_eq_false_iff_eq.mpr c24
      clear c24
      replace H := Option.bind_eq_some_iff.mp H
      obtain ⟨t437, A250, H⟩ := H
      replace H : (some t437) = some r := H
      have A25 := Aside0.mk A250
      clear A250
      obtain rfl := Option.some.inj H
      go_enter Try.func5, Try.ntmps5
      try go_wp2_with (first | ((with_reducible refine gate_dst (N := 5) rfl ?_); refine box_event ?hg (N := 5) ?hd (cs := #[.int .i64 a1_0, .int .i64 a1_1, .int .i64 a1_2, .int .i64 a1_3]) (t := 23) ?hr ?_; (case hd => rfl); (case hg => rfl); (case hr => first | (go_simp; done) | (go_simp; rfl)); intro gb396 hg w26 hbox hb; have n0_ := Aside0.mk (below_step (bh HB.out) hb); have n1_ := Aside0.mk (hbox); have n2_ := Aside0.mk ((by rw [hg]; exact (below_size (bh HB.out)) : w.heap.size ≤ gb396)); have n3_ := Aside0.mk ((by rw [hg]; exact (below_size (bh HB.out)) : w.heap.size ≤ gb396)); clear HB; have HB := n0_; have BK396 := n1_; have GW396 := n2_; have GE396 := n3_; clear n0_ n1_ n2_ n3_; clear hb hbox hg) | ((with_reducible refine gate_dst (N := 6) rfl ?_); refine box_event ?hg (N := 6) ?hd (cs := #[.int .i64 a2_0, .int .i64 a2_1]) (t := 47) ?hr ?_; (case hd => rfl); (case hg => rfl); (case hr => first | (go_simp; done) | (go_simp; rfl)); intro gb397 hg w27 hbox hb; have n0_ := Aside0.mk (blk_below (g := gb396) (o := .cells #[.int .i64 a1_0, .int .i64 a1_1, .int .i64 a1_2, .int .i64 a1_3] 23 (0, 0)) (bk BK396.out) hb); have n1_ := Aside0.mk (below_step (by repeat (first | (with_reducible first | exact HB.out | apply below_alloc | apply pw_below_drewN | apply below_drew1 | refine below_set ?_ GE396.out) | exact HB.out)) hb); have n2_ := Aside0.mk (hbox); have n3_ := Aside0.mk ((by rw [hg]; exact (below_size (by repeat (first | (with_reducible first | exact HB.out | apply below_alloc | apply pw_below_drewN | apply below_drew1 | refine below_set ?_ GE396.out) | exact HB.out))) : w.heap.size ≤ gb397)); have n4_ := Aside0.mk ((by rw [hg]; exact (below_size (by repeat (first | (with_reducible first | exact HB.out | apply below_alloc | apply pw_below_drewN | apply below_drew1 | refine below_set ?_ GE396.out) | exact HB.out))) : w.heap.size ≤ gb397)); have n5_ := Aside0.mk ((by rw [hg]; exact Nat.ne_of_lt (blk_lt (g := gb396) (o := .cells #[.int .i64 a1_0, .int .i64 a1_1, .int .i64 a1_2, .int .i64 a1_3] 23 (0, 0)) (bk BK396.out)) : gb396 ≠ gb397)); have n6_ := Aside0.mk ((by rw [hg]; exact Nat.ne_of_gt (blk_lt (g := gb396) (o := .cells #[.int .i64 a1_0, .int .i64 a1_1, .int .i64 a1_2, .int .i64 a1_3] 23 (0, 0)) (bk BK396.out)) : gb397 ≠ gb396)); clear BK396; clear HB; have BK396 := n0_; have HB := n1_; have BK397 := n2_; have GW397 := n3_; have GE397 := n4_; have NB396_397 := n5_; have NB397_396 := n6_; clear n0_ n1_ n2_ n3_ n4_ n5_ n6_; clear hb hbox hg) | ((with_reducible refine gate_dst (N := 7) rfl ?_); refine box_event ?hg (N := 7) ?hd (cs := #[.int .i64 a3_0, .int .i64 a3_1]) (t := 25) ?hr ?_; (case hd => rfl); (case hg => rfl); (case hr => first | (go_simp; done) | (go_simp; rfl)); intro gb398 hg w28 hbox hb; have n0_ := Aside0.mk (blk_below (g := gb396) (o := .cells #[.int .i64 a1_0, .int .i64 a1_1, .int .i64 a1_2, .int .i64 a1_3] 23 (0, 0)) (bk BK396.out) hb); have n1_ := Aside0.mk (blk_below (g := gb397) (o := .cells #[.int .i64 a2_0, .int .i64 a2_1] 47 (0, 0)) (bk BK397.out) hb); have n2_ := Aside0.mk (below_step (by repeat (first | (with_reducible first | exact HB.out | apply below_alloc | apply pw_below_drewN | apply below_drew1 | refine below_set ?_ GE396.out | refine below_set ?_ GE397.out) | exact HB.out)) hb); have n3_ := Aside0.mk (hbox); have n4_ := Aside0.mk ((by rw [hg]; exact (below_size (by repeat (first | (with_reducible first | exact HB.out | apply below_alloc | apply pw_below_drewN | apply below_drew1 | refine below_set ?_ GE396.out | refine below_set ?_ GE397.out) | exact HB.out))) : w.heap.size ≤ gb398)); have n5_ := Aside0.mk ((by rw [hg]; exact (below_size (by repeat (first | (with_reducible first | exact HB.out | apply below_alloc | apply pw_below_drewN | apply below_drew1 | refine below_set ?_ GE396.out | refine below_set ?_ GE397.out) | exact HB.out))) : w.heap.size ≤ gb398)); have n6_ := Aside0.mk ((by rw [hg]; exact Nat.ne_of_lt (blk_lt (g := gb396) (o := .cells #[.int .i64 a1_0, .int .i64 a1_1, .int .i64 a1_2, .int .i64 a1_3] 23 (0, 0)) (bk BK396.out)) : gb396 ≠ gb398)); have n7_ := Aside0.mk ((by rw [hg]; exact Nat.ne_of_gt (blk_lt (g := gb396) (o := .cells #[.int .i64 a1_0, .int .i64 a1_1, .int .i64 a1_2, .int .i64 a1_3] 23 (0, 0)) (bk BK396.out)) : gb398 ≠ gb396)); have n8_ := Aside0.mk ((by rw [hg]; exact Nat.ne_of_lt (blk_lt (g := gb397) (o := .cells #[.int .i64 a2_0, .int .i64 a2_1] 47 (0, 0)) (bk BK397.out)) : gb397 ≠ gb398)); have n9_ := Aside0.mk ((by rw [hg]; exact Nat.ne_of_gt (blk_lt (g := gb397) (o := .cells #[.int .i64 a2_0, .int .i64 a2_1] 47 (0, 0)) (bk BK397.out)) : gb398 ≠ gb397)); clear BK396; clear BK397; clear HB; have BK396 := n0_; have BK397 := n1_; have HB := n2_; have BK398 := n3_; have GW398 := n4_; have GE398 := n5_; have NB396_398 := n6_; have NB398_396 := n7_; have NB397_398 := n8_; have NB398_397 := n9_; clear n0_ n1_ n2_ n3_ n4_ n5_ n6_ n7_ n8_ n9_; clear hb hbox hg) | ((with_reducible refine gate_dst (N := 9) rfl ?_); refine box_event ?hg (N := 9) ?hd (cs := #[.int .i64 0]) (t := 27) ?hr ?_; (case hd => rfl); (case hg => rfl); (case hr => first | (go_simp; done) | (go_simp; rfl)); intro gb399 hg w29 hbox hb; have n0_ := Aside0.mk (blk_below (g := gb396) (o := .cells #[.int .i64 a1_0, .int .i64 a1_1, .int .i64 a1_2, .int .i64 a1_3] 23 (0, 0)) (bk BK396.out) hb); have n1_ := Aside0.mk (blk_below (g := gb397) (o := .cells #[.int .i64 a2_0, .int .i64 a2_1] 47 (0, 0)) (bk BK397.out) hb); have n2_ := Aside0.mk (blk_below (g := gb398) (o := .cells #[.int .i64 a3_0, .int .i64 a3_1] 25 (0, 0)) (bk BK398.out) hb); have n3_ := Aside0.mk (below_step (by repeat (first | (with_reducible first | exact HB.out | apply below_alloc | apply pw_below_drewN | apply below_drew1 | refine below_set ?_ GE396.out | refine below_set ?_ GE397.out | refine below_set ?_ GE398.out) | exact HB.out)) hb); have n4_ := Aside0.mk (hbox); have n5_ := Aside0.mk ((by rw [hg]; exact (below_size (by repeat (first | (with_reducible first | exact HB.out | apply below_alloc | apply pw_below_drewN | apply below_drew1 | refine below_set ?_ GE396.out | refine below_set ?_ GE397.out | refine below_set ?_ GE398.out) | exact HB.out))) : w.heap.size ≤ gb399)); have n6_ := Aside0.mk ((by rw [hg]; exact (below_size (by repeat (first | (with_reducible first | exact HB.out | apply below_alloc | apply pw_below_drewN | apply below_drew1 | refine below_set ?_ GE396.out | refine below_set ?_ GE397.out | refine below_set ?_ GE398.out) | exact HB.out))) : w.heap.size ≤ gb399)); have n7_ := Aside0.mk ((by rw [hg]; exact Nat.ne_of_lt (blk_lt (g := gb396) (o := .cells #[.int .i64 a1_0, .int .i64 a1_1, .int .i64 a1_2, .int .i64 a1_3] 23 (0, 0)) (bk BK396.out)) : gb396 ≠ gb399)); have n8_ := Aside0.mk ((by rw [hg]; exact Nat.ne_of_gt (blk_lt (g := gb396) (o := .cells #[.int .i64 a1_0, .int .i64 a1_1, .int .i64 a1_2, .int .i64 a1_3] 23 (0, 0)) (bk BK396.out)) : gb399 ≠ gb396)); have n9_ := Aside0.mk ((by rw [hg]; exact Nat.ne_of_lt (blk_lt (g := gb397) (o := .cells #[.int .i64 a2_0, .int .i64 a2_1] 47 (0, 0)) (bk BK397.out)) : gb397 ≠ gb399)); have n10_ := Aside0.mk ((by rw [hg]; exact Nat.ne_of_gt (blk_lt (g := gb397) (o := .cells #[.int .i64 a2_0, .int .i64 a2_1] 47 (0, 0)) (bk BK397.out)) : gb399 ≠ gb397)); have n11_ := Aside0.mk ((by rw [hg]; exact Nat.ne_of_lt (blk_lt (g := gb398) (o := .cells #[.int .i64 a3_0, .int .i64 a3_1] 25 (0, 0)) (bk BK398.out)) : gb398 ≠ gb399)); have n12_ := Aside0.mk ((by rw [hg]; exact Nat.ne_of_gt (blk_lt (g := gb398) (o := .cells #[.int .i64 a3_0, .int .i64 a3_1] 25 (0, 0)) (bk BK398.out)) : gb399 ≠ gb398)); clear BK396; clear BK397; clear BK398; clear HB; have BK396 := n0_; have BK397 := n1_; have BK398 := n2_; have HB := n3_; have BK399 := n4_; have GW399 := n5_; have GE399 := n6_; have NB396_399 := n7_; have NB399_396 := n8_; have NB397_399 := n9_; have NB399_397 := n10_; have NB398_399 := n11_; have NB399_398 := n12_; clear n0_ n1_ n2_ n3_ n4_ n5_ n6_ n7_ n8_ n9_ n10_ n11_ n12_; clear hb hbox hg; have hnb30 := NB399_396.out; have hnc30 := NB396_399.out; have hnb31 := NB399_397.out; have hnc31 := NB397_399.out; have hnb32 := NB399_398.out; have hnc32 := NB398_399.out; have hcz33_0 : w29.cell? ⟨gb399, 0, none⟩ = some (.int .i64 0) := (blk_cell BK399.out 0).trans rfl; have hfz33_0 := blk_frozen BK399.out 0))
      have n0_ : Aside0 ((w29.setCell ⟨gb399, 0, none⟩ (.int .i64 a0)).heap[gb396]? = some (.cells #[.int .i64 a1_0, .int .i64 a1_1, .int .i64 a1_2, .int .i64 a1_3] 23 (0, 0))) := ⟨by (with_reducible repeat (first | refine blk_drewN ?_ _ | refine blk_drew ?_ | refine blk_alloc ?_ _)); refine blk_far ?_ NB396_399.out _; (with_reducible repeat (first | refine blk_drewN ?_ _ | refine blk_drew ?_ | refine blk_alloc ?_ _)); exact BK396.out⟩
      have n1_ : Aside0 ((w29.setCell ⟨gb399, 0, none⟩ (.int .i64 a0)).heap[gb397]? = some (.cells #[.int .i64 a2_0, .int .i64 a2_1] 47 (0, 0))) := ⟨by (with_reducible repeat (first | refine blk_drewN ?_ _ | refine blk_drew ?_ | refine blk_alloc ?_ _)); refine blk_far ?_ NB397_399.out _; (with_reducible repeat (first | refine blk_drewN ?_ _ | refine blk_drew ?_ | refine blk_alloc ?_ _)); exact BK397.out⟩
      have n2_ : Aside0 ((w29.setCell ⟨gb399, 0, none⟩ (.int .i64 a0)).heap[gb398]? = some (.cells #[.int .i64 a3_0, .int .i64 a3_1] 25 (0, 0))) := ⟨by (with_reducible repeat (first | refine blk_drewN ?_ _ | refine blk_drew ?_ | refine blk_alloc ?_ _)); refine blk_far ?_ NB398_399.out _; (with_reducible repeat (first | refine blk_drewN ?_ _ | refine blk_drew ?_ | refine blk_alloc ?_ _)); exact BK398.out⟩
      have n3_ : Aside0 ((w29.setCell ⟨gb399, 0, none⟩ (.int .i64 a0)).heap[gb399]? = some (.cells #[.int .i64 a0] 27 (0, 0))) := ⟨by (with_reducible repeat (first | refine blk_drewN ?_ _ | refine blk_drew ?_ | refine blk_alloc ?_ _)); refine blk_put (cs := #[.int .i64 0]) ?_ 0 _ rfl; (with_reducible repeat (first | refine blk_drewN ?_ _ | refine blk_drew ?_ | refine blk_alloc ?_ _)); exact BK399.out⟩
      have n4_ : Aside0 (Below w.heap.size w (w29.setCell ⟨gb399, 0, none⟩ (.int .i64 a0))) := ⟨by repeat (first | (with_reducible first | exact HB.out | apply below_alloc | apply pw_below_drewN | apply below_drew1 | refine below_set ?_ GE396.out | refine below_set ?_ GE397.out | refine below_set ?_ GE398.out | refine below_set ?_ GE399.out) | exact HB.out)⟩
      (try clear BK396)
      (try clear BK397)
      (try clear BK398)
      (try clear BK399)
      (try clear HB)
      generalize (w29.setCell ⟨gb399, 0, none⟩ (.int .i64 a0)) = w34 at n0_ n1_ n2_ n3_ n4_ ⊢
      have BK396 := n0_
      have BK397 := n1_
      have BK398 := n2_
      have BK399 := n3_
      have HB := n4_
      clear n0_ n1_ n2_ n3_ n4_
      have n0_ := Aside0.mk (blk_drew BK396.out)
      have n1_ := Aside0.mk (blk_drew BK397.out)
      have n2_ := Aside0.mk (blk_drew BK398.out)
      have n3_ := Aside0.mk (blk_drew BK399.out)
      have n4_ := Aside0.mk (below_drew1 HB.out)
      clear BK396
      clear BK397
      clear BK398
      clear BK399
      clear HB
      have BK396 := n0_
      have BK397 := n1_
      have BK398 := n2_
      have BK399 := n3_
      have HB := n4_
      clear n0_ n1_ n2_ n3_ n4_
      refine start_ (n := 9) (S := fun w' => w'.cell? ⟨gb399, 0, none⟩ = some (.int .i64 a0) ∧ w'.cell? ⟨gb396, 0, none⟩ = some (.int .i64 a1_0) ∧ w'.cell? ⟨gb396, 1, none⟩ = some (.int .i64 a1_1) ∧ w'.cell? ⟨gb396, 2, none⟩ = some (.int .i64 a1_2) ∧ w'.cell? ⟨gb396, 3, none⟩ = some (.int .i64 a1_3)) (ds := []) #[false, false, false, false, false, false, false, false, false] (by kernel_rfl) rfl rfl ⟨(blk_cell BK399.out 0).trans rfl, (blk_cell BK396.out 0).trans rfl, (blk_cell BK396.out 1).trans rfl, (blk_cell BK396.out 2).trans rfl, (blk_cell BK396.out 3).trans rfl⟩ (fun hHeld => ?_); refine with_tabW glebelaw04_WindowCuts.tab2 glebelaw04_WindowCuts.bits2 (fun HT_ HW_ => ?_)
      generalize w34.drew = w35 at BK396 BK397 BK398 BK399 HB hHeld ⊢
      refine take_ (i := 0) (N := some 17) (v := ?_) (a' := ?_) #[true, false, false, false, false, false, false, false, false] rfl rfl (take_ofW HT_.out HW_.out (by kernel_rfl)) (fun _ _ _ h => h) (Or.inl ⟨by rfl, ?_⟩) hHeld ?_ ?_
      rotate_left
      ·rintro w' ⟨s0, s1, s2, s3, s4⟩
       go_simp
       with_reducible rfl
      rotate_left
      ·simp only [Act.put, List.setIfInBounds_toArray, List.set_cons_zero, List.set_cons_succ, i64_w, i32_w]
       rfl
      refine take_ (i := 1) (N := some 18) (v := ?_) (a' := ?_) #[true, true, false, false, false, false, false, false, false] rfl rfl (take_ofW HT_.out HW_.out (by kernel_rfl)) (fun _ _ _ h => h) (Or.inl ⟨by rfl, ?_⟩) hHeld ?_ ?_
      rotate_left
      ·rintro w' ⟨s0, s1, s2, s3, s4⟩
       go_simp
       with_reducible rfl
      rotate_left
      ·simp only [Act.put, List.setIfInBounds_toArray, List.set_cons_zero, List.set_cons_succ, i64_w, i32_w]
       rfl
      refine one_ (i := 2) (N := some 19) #[true, true, true, false, false, false, false, false, false] rfl rfl (one_of HT_.out (by kernel_rfl)) (by decide) (fun K hK => ?_)
      refine goes_ Try.func20 (by kernel_rfl) rfl #[.agg #[.int .i64 a1_0, .int .i64 a1_1, .int .i64 a1_2, .int .i64 a1_3]] (by rfl) rfl rfl (by (try simp only [List.map_toArray, List.map_cons, List.map_nil]); first | done | rfl | (simp only [List.length_drop, List.length_take]; rfl)) ?_
      with_reducible refine (glebelaw04_Own.calls a1_0 a1_1 a1_2 a1_3 t400 t401 t402 t403 _ A5.out).mono ?_
      rintro e w36 ⟨rfl, hb⟩
      refine ⟨_, rfl, ?_⟩
      have n0_ := Aside0.mk (blk_below (g := gb396) (o := .cells #[.int .i64 a1_0, .int .i64 a1_1, .int .i64 a1_2, .int .i64 a1_3] 23 (0, 0)) (bk BK396.out) hb)
      have n1_ := Aside0.mk (blk_below (g := gb397) (o := .cells #[.int .i64 a2_0, .int .i64 a2_1] 47 (0, 0)) (bk BK397.out) hb)
      have n2_ := Aside0.mk (blk_below (g := gb398) (o := .cells #[.int .i64 a3_0, .int .i64 a3_1] 25 (0, 0)) (bk BK398.out) hb)
      have n3_ := Aside0.mk (blk_below (g := gb399) (o := .cells #[.int .i64 a0] 27 (0, 0)) (bk BK399.out) hb)
      have n4_ := Aside0.mk (below_step (by repeat (first | (with_reducible first | exact HB.out | apply below_alloc | apply pw_below_drewN | apply below_drew1 | refine below_set ?_ GE396.out | refine below_set ?_ GE397.out | refine below_set ?_ GE398.out | refine below_set ?_ GE399.out) | exact HB.out)) hb)
      clear BK396
      clear BK397
      clear BK398
      clear BK399
      clear HB
      have BK396 := n0_
      have BK397 := n1_
      have BK398 := n2_
      have BK399 := n3_
      have HB := n4_
      clear n0_ n1_ n2_ n3_ n4_
      (try clear hb)
      (try clear hb2)
      (try clear hk)
      (try clear hi)
      refine hK.out _ _ ⟨(blk_cell BK399.out 0).trans rfl, (blk_cell BK396.out 0).trans rfl, (blk_cell BK396.out 1).trans rfl, (blk_cell BK396.out 2).trans rfl, (blk_cell BK396.out 3).trans rfl⟩ (fun hHeld => ?_)
      clear hK K
      refine norm_ (a' := ?_) ?_ ?_
      rotate_left
      ·show Act.put _ (some 19) _ = _
       simp only [Act.put, List.setIfInBounds_toArray, List.set_cons_zero, List.set_cons_succ, i64_w, i32_w]
       rfl
      refine one_ (i := 3) (N := some 20) #[true, true, true, true, false, false, false, false, false] rfl rfl (one_of HT_.out (by kernel_rfl)) (by decide) (fun K hK => ?_)
      refine goes_ Try.func13 (by kernel_rfl) rfl #[.agg #[.int .i64 a0], .agg #[.int .i64 t400, .int .i64 t401, .int .i64 t402, .int .i64 t403]] (by rfl) rfl rfl (by (try simp only [List.map_toArray, List.map_cons, List.map_nil]); first | done | rfl | (simp only [List.length_drop, List.length_take]; rfl)) ?_
      with_reducible refine (window_Plain.calls k a0 t400 t401 t402 t403 t404 t407 _ A6.out).mono ?_
      rintro e w37 ⟨v405, rfl, ho0, hb⟩
      refine ⟨_, rfl, ?_⟩
      have n0_ := Aside0.mk (Kd.R_lower ho0 (below_size (by repeat (first | (with_reducible first | exact HB.out | apply below_alloc | apply pw_below_drewN | apply below_drew1 | refine below_set ?_ GE396.out | refine below_set ?_ GE397.out | refine below_set ?_ GE398.out | refine below_set ?_ GE399.out) | exact HB.out))))
      have n1_ := Aside0.mk (blk_below (g := gb396) (o := .cells #[.int .i64 a1_0, .int .i64 a1_1, .int .i64 a1_2, .int .i64 a1_3] 23 (0, 0)) (bk BK396.out) hb)
      have n2_ := Aside0.mk (blk_below (g := gb397) (o := .cells #[.int .i64 a2_0, .int .i64 a2_1] 47 (0, 0)) (bk BK397.out) hb)
      have n3_ := Aside0.mk (blk_below (g := gb398) (o := .cells #[.int .i64 a3_0, .int .i64 a3_1] 25 (0, 0)) (bk BK398.out) hb)
      have n4_ := Aside0.mk (blk_below (g := gb399) (o := .cells #[.int .i64 a0] 27 (0, 0)) (bk BK399.out) hb)
      have n5_ := Aside0.mk (below_step (by repeat (first | (with_reducible first | exact HB.out | apply below_alloc | apply pw_below_drewN | apply below_drew1 | refine below_set ?_ GE396.out | refine below_set ?_ GE397.out | refine below_set ?_ GE398.out | refine below_set ?_ GE399.out) | exact HB.out)) hb)
      clear BK396
      clear BK397
      clear BK398
      clear BK399
      clear HB
      have HO406 := n0_
      have BK396 := n1_
      have BK397 := n2_
      have BK398 := n3_
      have BK399 := n4_
      have HB := n5_
      clear n0_ n1_ n2_ n3_ n4_ n5_
      (try clear hb)
      (try clear hb2)
      (try clear hk)
      (try clear hi)
      (try clear ho0)
      refine hK.out _ _ ⟨(blk_cell BK399.out 0).trans rfl, (blk_cell BK396.out 0).trans rfl, (blk_cell BK396.out 1).trans rfl, (blk_cell BK396.out 2).trans rfl, (blk_cell BK396.out 3).trans rfl⟩ (fun hHeld => ?_)
      clear hK K
      refine norm_ (a' := ?_) ?_ ?_
      rotate_left
      ·show Act.put _ (some 20) _ = _
       simp only [Act.put, List.setIfInBounds_toArray, List.set_cons_zero, List.set_cons_succ, i64_w, i32_w]
       rfl
      refine pure_ (i := 4) (N := some 16) (v := ?_) (a' := ?_) #[true, true, true, true, true, false, false, false, false] rfl rfl (any_of HT_.out (by kernel_rfl)) (fun _ _ _ h => h) (Or.inl ⟨by rfl, ?_⟩) ?_ ?_
      rotate_left
      ·intro w'
       go_simp
       with_reducible rfl
      rotate_left
      ·simp only [Act.put, List.setIfInBounds_toArray, List.set_cons_zero, List.set_cons_succ, i64_w, i32_w]
       rfl
      refine pure_ (i := 5) (N := some 21) (v := ?_) (a' := ?_) #[true, true, true, true, true, true, false, false, false] rfl rfl (any_of HT_.out (by kernel_rfl)) (fun _ _ _ h => h) (Or.inl ⟨by rfl, ?_⟩) ?_ ?_
      rotate_left
      ·intro w'
       go_simp
       with_reducible rfl
      rotate_left
      ·simp only [Act.put, List.setIfInBounds_toArray, List.set_cons_zero, List.set_cons_succ, i64_w, i32_w]
       rfl
      refine pure_ (i := 6) (N := some 22) (v := ?_) (a' := ?_) #[true, true, true, true, true, true, true, false, false] rfl rfl (any_of HT_.out (by kernel_rfl)) (fun _ _ _ h => h) (Or.inl ⟨by rfl, ?_⟩) ?_ ?_
      rotate_left
      ·intro w'
       go_simp
       with_reducible rfl
      rotate_left
      ·simp only [Act.put, List.setIfInBounds_toArray, List.set_cons_zero, List.set_cons_succ, i64_w, i32_w]
       rfl
      refine pure_ (i := 7) (N := some 10) (v := ?_) (a' := ?_) #[true, true, true, true, true, true, true, true, false] rfl rfl (any_of HT_.out (by kernel_rfl)) (fun _ _ _ h => h) (Or.inl ⟨by rfl, ?_⟩) ?_ ?_
      rotate_left
      ·intro w'
       go_simp
       with_reducible rfl
      rotate_left
      ·simp only [Act.put, List.setIfInBounds_toArray, List.set_cons_zero, List.set_cons_succ, i64_w, i32_w]
       rfl
      refine pure_ (i := 8) (N := some 11) (v := ?_) (a' := ?_) #[true, true, true, true, true, true, true, true, true] rfl rfl (any_of HT_.out (by kernel_rfl)) (fun _ _ _ h => h) (Or.inl ⟨by rfl, ?_⟩) ?_ ?_
      rotate_left
      ·intro w'
       go_simp
       with_reducible rfl
      rotate_left
      ·simp only [Act.put, List.setIfInBounds_toArray, List.set_cons_zero, List.set_cons_succ, i64_w, i32_w]
       rfl
      refine done_ (done_of HT_.out (by kernel_rfl)) ?_
      have hnb38 := NB396_397.out
      have hnc38 := NB397_396.out
      have hnb39 := NB396_398.out
      have hnc39 := NB398_396.out
      have hcz40_0 : w37.cell? ⟨gb396, 0, none⟩ = some (.int .i64 a1_0) := (blk_cell BK396.out 0).trans rfl
      have hcz40_1 : w37.cell? ⟨gb396, 1, none⟩ = some (.int .i64 a1_1) := (blk_cell BK396.out 1).trans rfl
      have hcz40_2 : w37.cell? ⟨gb396, 2, none⟩ = some (.int .i64 a1_2) := (blk_cell BK396.out 2).trans rfl
      have hcz40_3 : w37.cell? ⟨gb396, 3, none⟩ = some (.int .i64 a1_3) := (blk_cell BK396.out 3).trans rfl
      have hfz40_0 := blk_frozen BK396.out 0
      have hfz40_1 := blk_frozen BK396.out 1
      have hfz40_2 := blk_frozen BK396.out 2
      have hfz40_3 := blk_frozen BK396.out 3
      try go_wp2_with (first | ((with_reducible refine gate_callee (f := 21) rfl ?_); refine goesL_ (some 26) rfl rfl Try.func21 (by kernel_rfl) rfl #[.int .i64 a0, .agg #[.int .i64 a1_0, .int .i64 a1_1, .int .i64 a1_2, .int .i64 a1_3]] rfl (by (try simp only [List.map_toArray, List.map_cons, List.map_nil]); first | done | rfl | (simp only [List.length_drop, List.length_take]; rfl)) ?_; (with_reducible refine (gleberef04_Plain.calls k a0 a1_0 a1_1 a1_2 a1_3 t408 t411 _ A7.out).mono ?_); rintro e w41 ⟨v409, rfl, ho0, hb⟩; refine ⟨_, rfl, ?_⟩; have n0_ := Aside0.mk (Kd.R_below (br HO406.out) hb); have n1_ := Aside0.mk (Kd.R_lower (Kd.R_newB ho0 (g := gb396) (o := .cells #[.int .i64 a1_0, .int .i64 a1_1, .int .i64 a1_2, .int .i64 a1_3] 23 (0, 0)) (bk BK396.out)) (below_size (by repeat (first | (with_reducible first | exact HB.out | apply below_alloc | apply pw_below_drewN | apply below_drew1 | refine below_set ?_ GE396.out | refine below_set ?_ GE397.out | refine below_set ?_ GE398.out | refine below_set ?_ GE399.out) | exact HB.out)))); have n2_ := Aside0.mk (blk_below (g := gb396) (o := .cells #[.int .i64 a1_0, .int .i64 a1_1, .int .i64 a1_2, .int .i64 a1_3] 23 (0, 0)) (bk BK396.out) hb); have n3_ := Aside0.mk (blk_below (g := gb397) (o := .cells #[.int .i64 a2_0, .int .i64 a2_1] 47 (0, 0)) (bk BK397.out) hb); have n4_ := Aside0.mk (blk_below (g := gb398) (o := .cells #[.int .i64 a3_0, .int .i64 a3_1] 25 (0, 0)) (bk BK398.out) hb); have n5_ := Aside0.mk (blk_below (g := gb399) (o := .cells #[.int .i64 a0] 27 (0, 0)) (bk BK399.out) hb); have n6_ := Aside0.mk (below_step (by repeat (first | (with_reducible first | exact HB.out | apply below_alloc | apply pw_below_drewN | apply below_drew1 | refine below_set ?_ GE396.out | refine below_set ?_ GE397.out | refine below_set ?_ GE398.out | refine below_set ?_ GE399.out) | exact HB.out)) hb); clear HO406; clear BK396; clear BK397; clear BK398; clear BK399; clear HB; have HO406 := n0_; have HO410 := n1_; have BK396 := n2_; have BK397 := n3_; have BK398 := n4_; have BK399 := n5_; have HB := n6_; clear n0_ n1_ n2_ n3_ n4_ n5_ n6_; (try clear hb); (try clear hb2); (try clear hk); (try clear hi); (try clear ho0)))
      have n0_ := Aside0.mk (Kd.R_drew HO406.out)
      have n1_ := Aside0.mk (Kd.R_drew HO410.out)
      have n2_ := Aside0.mk (blk_drew BK396.out)
      have n3_ := Aside0.mk (blk_drew BK397.out)
      have n4_ := Aside0.mk (blk_drew BK398.out)
      have n5_ := Aside0.mk (blk_drew BK399.out)
      have n6_ := Aside0.mk (below_drew1 HB.out)
      clear HO406
      clear HO410
      clear BK396
      clear BK397
      clear BK398
      clear BK399
      clear HB
      have HO406 := n0_
      have HO410 := n1_
      have BK396 := n2_
      have BK397 := n3_
      have BK398 := n4_
      have BK399 := n5_
      have HB := n6_
      clear n0_ n1_ n2_ n3_ n4_ n5_ n6_
      obtain ⟨Ao43, co43, eo43⟩ := Kd.R_slice HO406.out
      (first | subst eo43 | (injection eo43 with f1_ f2_ f3_; have f4_ := f1_.symm; have f5_ := f3_.symm; clear f1_ f2_ f3_; subst f4_; subst f5_))
      obtain ⟨Ao44, co44, eo44⟩ := Kd.R_slice HO410.out
      (first | subst eo44 | (injection eo44 with f1_ f2_ f3_; have f4_ := f1_.symm; have f5_ := f3_.symm; clear f1_ f2_ f3_; subst f4_; subst f5_))
      refine start_ (n := 49) (S := fun w' => w'.cell? ⟨gb399, 0, none⟩ = some (.int .i64 a0) ∧ w'.cell? ⟨gb396, 0, none⟩ = some (.int .i64 a1_0) ∧ w'.cell? ⟨gb396, 1, none⟩ = some (.int .i64 a1_1) ∧ w'.cell? ⟨gb396, 2, none⟩ = some (.int .i64 a1_2) ∧ w'.cell? ⟨gb396, 3, none⟩ = some (.int .i64 a1_3) ∧ w'.cell? ⟨gb397, 0, none⟩ = some (.int .i64 a2_0) ∧ w'.cell? ⟨gb397, 1, none⟩ = some (.int .i64 a2_1) ∧ w'.cell? ⟨gb398, 0, none⟩ = some (.int .i64 a3_0) ∧ w'.cell? ⟨gb398, 1, none⟩ = some (.int .i64 a3_1)) (ds := []) #[false, false, false, false, false, false, false, false, false, false, false, false, false, false, false, false, false, false, false, false, false, false, false, false, false, false, false, false, false, false, false, false, false, false, false, false, false, false, false, false, false, false, false, false, false, false, false, false, false] (by kernel_rfl) rfl rfl ⟨(blk_cell BK399.out 0).trans rfl, (blk_cell BK396.out 0).trans rfl, (blk_cell BK396.out 1).trans rfl, (blk_cell BK396.out 2).trans rfl, (blk_cell BK396.out 3).trans rfl, (blk_cell BK397.out 0).trans rfl, (blk_cell BK397.out 1).trans rfl, (blk_cell BK398.out 0).trans rfl, (blk_cell BK398.out 1).trans rfl⟩ (fun hHeld => ?_); refine with_tabW glebelaw04_WindowCuts.tab4 glebelaw04_WindowCuts.bits4 (fun HT_ HW_ => ?_)
      generalize w41.drew = w42 at HO406 HO410 BK396 BK397 BK398 BK399 HB hHeld ⊢
      refine pure_ (i := 0) (N := some 29) (v := ?_) (a' := ?_) #[true, false, false, false, false, false, false, false, false, false, false, false, false, false, false, false, false, false, false, false, false, false, false, false, false, false, false, false, false, false, false, false, false, false, false, false, false, false, false, false, false, false, false, false, false, false, false, false, false] rfl rfl (any_of HT_.out (by kernel_rfl)) (fun _ _ _ h => h) (Or.inl ⟨by rfl, ?_⟩) ?_ ?_
      rotate_left
      ·intro w'
       go_simp
       with_reducible rfl
      rotate_left
      ·simp only [Act.put, List.setIfInBounds_toArray, List.set_cons_zero, List.set_cons_succ, i64_w, i32_w]
       rfl
      refine pure_ (i := 1) (N := some 30) (v := ?_) (a' := ?_) #[true, true, false, false, false, false, false, false, false, false, false, false, false, false, false, false, false, false, false, false, false, false, false, false, false, false, false, false, false, false, false, false, false, false, false, false, false, false, false, false, false, false, false, false, false, false, false, false, false] rfl rfl (any_of HT_.out (by kernel_rfl)) (fun _ _ _ h => h) (Or.inl ⟨by rfl, ?_⟩) ?_ ?_
      rotate_left
      ·intro w'
       go_simp
       with_reducible rfl
      rotate_left
      ·simp only [Act.put, List.setIfInBounds_toArray, List.set_cons_zero, List.set_cons_succ, i64_w, i32_w]
       rfl
      refine one_ (i := 2) (N := some 31) #[true, true, true, false, false, false, false, false, false, false, false, false, false, false, false, false, false, false, false, false, false, false, false, false, false, false, false, false, false, false, false, false, false, false, false, false, false, false, false, false, false, false, false, false, false, false, false, false, false] rfl rfl (one_of HT_.out (by kernel_rfl)) (by decide) (fun K hK => ?_)
      refine goes_ Try.func22 (by kernel_rfl) rfl #[.slice Ao43 t404.length co43, .slice Ao44 t408.length co44] (by rfl) rfl rfl (by (try simp only [List.map_toArray, List.map_cons, List.map_nil]); first | done | rfl | (simp only [List.length_drop, List.length_take]; rfl)) ?_
      with_reducible refine (glebelaw04_Same.calls k _ _ t404 _ _ t408 true _ ?side1 ?side2 ?side3 ?side4 A8.out).mono ?_
      (case side1 => repeat (first | exact (Kd.R_reads' HO406.out).2.2 | (with_reducible refine Kd.C_alloc ?_ _) | (with_reducible refine Kd.C_drewN ?_ _) | (with_reducible refine Kd.C_drew ?_)))
      (case side2 => exact (Kd.R_reads' HO406.out).2.1)
      (case side3 => repeat (first | exact (Kd.R_reads' HO410.out).2.2 | (with_reducible refine Kd.C_alloc ?_ _) | (with_reducible refine Kd.C_drewN ?_ _) | (with_reducible refine Kd.C_drew ?_)))
      (case side4 => exact (Kd.R_reads' HO410.out).2.1)
      rintro e w45 ⟨rfl, hb⟩
      refine ⟨_, rfl, ?_⟩
      have n0_ := Aside0.mk (Kd.R_below (br HO406.out) hb)
      have n1_ := Aside0.mk (Kd.R_below (br HO410.out) hb)
      have n2_ := Aside0.mk (blk_below (g := gb396) (o := .cells #[.int .i64 a1_0, .int .i64 a1_1, .int .i64 a1_2, .int .i64 a1_3] 23 (0, 0)) (bk BK396.out) hb)
      have n3_ := Aside0.mk (blk_below (g := gb397) (o := .cells #[.int .i64 a2_0, .int .i64 a2_1] 47 (0, 0)) (bk BK397.out) hb)
      have n4_ := Aside0.mk (blk_below (g := gb398) (o := .cells #[.int .i64 a3_0, .int .i64 a3_1] 25 (0, 0)) (bk BK398.out) hb)
      have n5_ := Aside0.mk (blk_below (g := gb399) (o := .cells #[.int .i64 a0] 27 (0, 0)) (bk BK399.out) hb)
      have n6_ := Aside0.mk (below_step (by repeat (first | (with_reducible first | exact HB.out | apply below_alloc | apply pw_below_drewN | apply below_drew1 | refine below_set ?_ GE396.out | refine below_set ?_ GE397.out | refine below_set ?_ GE398.out | refine below_set ?_ GE399.out) | exact HB.out)) hb)
      clear HO406
      clear HO410
      clear BK396
      clear BK397
      clear BK398
      clear BK399
      clear HB
      have HO406 := n0_
      have HO410 := n1_
      have BK396 := n2_
      have BK397 := n3_
      have BK398 := n4_
      have BK399 := n5_
      have HB := n6_
      clear n0_ n1_ n2_ n3_ n4_ n5_ n6_
      (try clear hb)
      (try clear hb2)
      (try clear hk)
      (try clear hi)
      refine hK.out _ _ ⟨(blk_cell BK399.out 0).trans rfl, (blk_cell BK396.out 0).trans rfl, (blk_cell BK396.out 1).trans rfl, (blk_cell BK396.out 2).trans rfl, (blk_cell BK396.out 3).trans rfl, (blk_cell BK397.out 0).trans rfl, (blk_cell BK397.out 1).trans rfl, (blk_cell BK398.out 0).trans rfl, (blk_cell BK398.out 1).trans rfl⟩ (fun hHeld => ?_)
      clear hK K
      refine norm_ (a' := ?_) ?_ ?_
      rotate_left
      ·show Act.put _ (some 31) _ = _
       simp only [Act.put, List.setIfInBounds_toArray, List.set_cons_zero, List.set_cons_succ, i64_w, i32_w]
       rfl
      refine pure_ (i := 3) (N := some 32) (v := ?_) (a' := ?_) #[true, true, true, true, false, false, false, false, false, false, false, false, false, false, false, false, false, false, false, false, false, false, false, false, false, false, false, false, false, false, false, false, false, false, false, false, false, false, false, false, false, false, false, false, false, false, false, false, false] rfl rfl (any_of HT_.out (by kernel_rfl)) (fun _ _ _ h => h) (Or.inl ⟨by rfl, ?_⟩) ?_ ?_
      rotate_left
      ·intro w'
       go_simp
       with_reducible rfl
      rotate_left
      ·simp only [Act.put, List.setIfInBounds_toArray, List.set_cons_zero, List.set_cons_succ, i64_w, i32_w]
       rfl
      refine pure_ (i := 4) (N := some 33) (v := ?_) (a' := ?_) #[true, true, true, true, true, false, false, false, false, false, false, false, false, false, false, false, false, false, false, false, false, false, false, false, false, false, false, false, false, false, false, false, false, false, false, false, false, false, false, false, false, false, false, false, false, false, false, false, false] rfl rfl (any_of HT_.out (by kernel_rfl)) (fun _ _ _ h => h) (Or.inl ⟨by rfl, ?_⟩) ?_ ?_
      rotate_left
      ·intro w'
       go_simp
       with_reducible rfl
      rotate_left
      ·simp only [Act.put, List.setIfInBounds_toArray, List.set_cons_zero, List.set_cons_succ, i64_w, i32_w]
       rfl
      refine pure_ (i := 6) (N := some 35) (v := ?_) (a' := ?_) #[true, true, true, true, true, false, true, false, false, false, false, false, false, false, false, false, false, false, false, false, false, false, false, false, false, false, false, false, false, false, false, false, false, false, false, false, false, false, false, false, false, false, false, false, false, false, false, false, false] rfl rfl (any_of HT_.out (by kernel_rfl)) (fun _ _ _ h => h) (Or.inl ⟨by rfl, ?_⟩) ?_ ?_
      rotate_left
      ·intro w'
       go_simp
       with_reducible rfl
      rotate_left
      ·simp only [Act.put, List.setIfInBounds_toArray, List.set_cons_zero, List.set_cons_succ, i64_w, i32_w]
       rfl
      refine one_ (i := 5) (N := some 34) #[true, true, true, true, true, true, true, false, false, false, false, false, false, false, false, false, false, false, false, false, false, false, false, false, false, false, false, false, false, false, false, false, false, false, false, false, false, false, false, false, false, false, false, false, false, false, false, false, false] rfl rfl (one_of HT_.out (by kernel_rfl)) (by decide) (fun K hK => ?_)
      refine goes_ Try.func18 (by kernel_rfl) rfl #[.int .i64 t407] (by rfl) rfl rfl (by (try simp only [List.map_toArray, List.map_cons, List.map_nil]); first | done | rfl | (simp only [List.length_drop, List.length_take]; rfl)) ?_
      with_reducible refine (glebelaw04_num.calls t407 t413 _ A10.out).mono ?_
      rintro e w' ⟨rfl, ⟨nd, rfl⟩⟩
      refine ⟨_, rfl, ?_⟩
      refine hK.out _ _ ⟨(blk_cell BK399.out 0).trans rfl, (blk_cell BK396.out 0).trans rfl, (blk_cell BK396.out 1).trans rfl, (blk_cell BK396.out 2).trans rfl, (blk_cell BK396.out 3).trans rfl, (blk_cell BK397.out 0).trans rfl, (blk_cell BK397.out 1).trans rfl, (blk_cell BK398.out 0).trans rfl, (blk_cell BK398.out 1).trans rfl⟩ (fun hHeld => ?_)
      clear hK K
      refine norm_ (a' := ?_) ?_ ?_
      rotate_left
      ·show Act.put _ (some 34) _ = _
       simp only [Act.put, List.setIfInBounds_toArray, List.set_cons_zero, List.set_cons_succ, i64_w, i32_w]
       rfl
      refine pure_ (i := 7) (N := some 36) (v := ?_) (a' := ?_) #[true, true, true, true, true, true, true, true, false, false, false, false, false, false, false, false, false, false, false, false, false, false, false, false, false, false, false, false, false, false, false, false, false, false, false, false, false, false, false, false, false, false, false, false, false, false, false, false, false] rfl rfl (any_of HT_.out (by kernel_rfl)) (fun _ _ _ h => h) (Or.inl ⟨by rfl, ?_⟩) ?_ ?_
      rotate_left
      ·intro w'
       go_simp
       with_reducible rfl
      rotate_left
      ·simp only [Act.put, List.setIfInBounds_toArray, List.set_cons_zero, List.set_cons_succ, i64_w, i32_w]
       rfl
      refine pure_ (i := 8) (N := some 37) (v := ?_) (a' := ?_) #[true, true, true, true, true, true, true, true, true, false, false, false, false, false, false, false, false, false, false, false, false, false, false, false, false, false, false, false, false, false, false, false, false, false, false, false, false, false, false, false, false, false, false, false, false, false, false, false, false] rfl rfl (any_of HT_.out (by kernel_rfl)) (fun _ _ _ h => h) (Or.inl ⟨by rfl, ?_⟩) ?_ ?_
      rotate_left
      ·intro w'
       go_simp
       with_reducible rfl
      rotate_left
      ·simp only [Act.put, List.setIfInBounds_toArray, List.set_cons_zero, List.set_cons_succ, i64_w, i32_w]
       rfl
      refine pure_ (i := 9) (N := some 38) (v := ?_) (a' := ?_) #[true, true, true, true, true, true, true, true, true, true, false, false, false, false, false, false, false, false, false, false, false, false, false, false, false, false, false, false, false, false, false, false, false, false, false, false, false, false, false, false, false, false, false, false, false, false, false, false, false] rfl rfl (any_of HT_.out (by kernel_rfl)) (fun _ _ _ h => h) (Or.inl ⟨by rfl, ?_⟩) ?_ ?_
      rotate_left
      ·intro w'
       go_simp
       with_reducible rfl
      rotate_left
      ·simp only [Act.put, List.setIfInBounds_toArray, List.set_cons_zero, List.set_cons_succ, i64_w, i32_w]
       rfl
      refine pure_ (i := 15) (N := some 44) (v := ?_) (a' := ?_) #[true, true, true, true, true, true, true, true, true, true, false, false, false, false, false, true, false, false, false, false, false, false, false, false, false, false, false, false, false, false, false, false, false, false, false, false, false, false, false, false, false, false, false, false, false, false, false, false, false] rfl rfl (any_of HT_.out (by kernel_rfl)) (fun _ _ _ h => h) (Or.inl ⟨by rfl, ?_⟩) ?_ ?_
      rotate_left
      ·intro w'
       go_simp
       with_reducible rfl
      rotate_left
      ·simp only [Act.put, List.setIfInBounds_toArray, List.set_cons_zero, List.set_cons_succ, i64_w, i32_w]
       rfl
      refine take_ (i := 10) (N := some 39) (v := ?_) (a' := ?_) #[true, true, true, true, true, true, true, true, true, true, true, false, false, false, false, true, false, false, false, false, false, false, false, false, false, false, false, false, false, false, false, false, false, false, false, false, false, false, false, false, false, false, false, false, false, false, false, false, false] rfl rfl (take_ofW HT_.out HW_.out (by kernel_rfl)) (fun _ _ _ h => h) (Or.inl ⟨by rfl, ?_⟩) hHeld ?_ ?_
      rotate_left
      ·rintro w' ⟨s0, s1, s2, s3, s4, s5, s6, s7, s8⟩
       go_simp
       with_reducible rfl
      rotate_left
      ·simp only [Act.put, List.setIfInBounds_toArray, List.set_cons_zero, List.set_cons_succ, i64_w, i32_w]
       rfl
      refine take_ (i := 11) (N := some 40) (v := ?_) (a' := ?_) #[true, true, true, true, true, true, true, true, true, true, true, true, false, false, false, true, false, false, false, false, false, false, false, false, false, false, false, false, false, false, false, false, false, false, false, false, false, false, false, false, false, false, false, false, false, false, false, false, false] rfl rfl (take_ofW HT_.out HW_.out (by kernel_rfl)) (fun _ _ _ h => h) (Or.inl ⟨by rfl, ?_⟩) hHeld ?_ ?_
      rotate_left
      ·rintro w' ⟨s0, s1, s2, s3, s4, s5, s6, s7, s8⟩
       go_simp
       with_reducible rfl
      rotate_left
      ·simp only [Act.put, List.setIfInBounds_toArray, List.set_cons_zero, List.set_cons_succ, i64_w, i32_w]
       rfl
      refine take_ (i := 13) (N := some 42) (v := ?_) (a' := ?_) #[true, true, true, true, true, true, true, true, true, true, true, true, false, true, false, true, false, false, false, false, false, false, false, false, false, false, false, false, false, false, false, false, false, false, false, false, false, false, false, false, false, false, false, false, false, false, false, false, false] rfl rfl (take_ofW HT_.out HW_.out (by kernel_rfl)) (fun _ _ _ h => h) (Or.inl ⟨by rfl, ?_⟩) hHeld ?_ ?_
      rotate_left
      ·rintro w' ⟨s0, s1, s2, s3, s4, s5, s6, s7, s8⟩
       go_simp
       with_reducible rfl
      rotate_left
      ·simp only [Act.put, List.setIfInBounds_toArray, List.set_cons_zero, List.set_cons_succ, i64_w, i32_w]
       rfl
      refine take_ (i := 16) (N := some 45) (v := ?_) (a' := ?_) #[true, true, true, true, true, true, true, true, true, true, true, true, false, true, false, true, true, false, false, false, false, false, false, false, false, false, false, false, false, false, false, false, false, false, false, false, false, false, false, false, false, false, false, false, false, false, false, false, false] rfl rfl (take_ofW HT_.out HW_.out (by kernel_rfl)) (fun _ _ _ h => h) (Or.inl ⟨by rfl, ?_⟩) hHeld ?_ ?_
      rotate_left
      ·rintro w' ⟨s0, s1, s2, s3, s4, s5, s6, s7, s8⟩
       go_simp
       with_reducible rfl
      rotate_left
      ·simp only [Act.put, List.setIfInBounds_toArray, List.set_cons_zero, List.set_cons_succ, i64_w, i32_w]
       rfl
      refine take_ (i := 17) (N := some 46) (v := ?_) (a' := ?_) #[true, true, true, true, true, true, true, true, true, true, true, true, false, true, false, true, true, true, false, false, false, false, false, false, false, false, false, false, false, false, false, false, false, false, false, false, false, false, false, false, false, false, false, false, false, false, false, false, false] rfl rfl (take_ofW HT_.out HW_.out (by kernel_rfl)) (fun _ _ _ h => h) (Or.inl ⟨by rfl, ?_⟩) hHeld ?_ ?_
      rotate_left
      ·rintro w' ⟨s0, s1, s2, s3, s4, s5, s6, s7, s8⟩
       go_simp
       with_reducible rfl
      rotate_left
      ·simp only [Act.put, List.setIfInBounds_toArray, List.set_cons_zero, List.set_cons_succ, i64_w, i32_w]
       rfl
      refine one_ (i := 12) (N := some 41) #[true, true, true, true, true, true, true, true, true, true, true, true, true, true, false, true, true, true, false, false, false, false, false, false, false, false, false, false, false, false, false, false, false, false, false, false, false, false, false, false, false, false, false, false, false, false, false, false, false] rfl rfl (one_of HT_.out (by kernel_rfl)) (by decide) (fun K hK => ?_)
      refine goes_ Try.func20 (by kernel_rfl) rfl #[.agg #[.int .i64 a1_0, .int .i64 a1_1, .int .i64 a1_2, .int .i64 a1_3]] (by rfl) rfl rfl (by (try simp only [List.map_toArray, List.map_cons, List.map_nil]); first | done | rfl | (simp only [List.length_drop, List.length_take]; rfl)) ?_
      with_reducible refine (glebelaw04_Own.calls a1_0 a1_1 a1_2 a1_3 t414 t415 t416 t417 _ A12.out).mono ?_
      rintro e w46 ⟨rfl, hb⟩
      refine ⟨_, rfl, ?_⟩
      have n0_ := Aside0.mk (Kd.R_below (br HO406.out) hb)
      have n1_ := Aside0.mk (Kd.R_below (br HO410.out) hb)
      have n2_ := Aside0.mk (blk_below (g := gb396) (o := .cells #[.int .i64 a1_0, .int .i64 a1_1, .int .i64 a1_2, .int .i64 a1_3] 23 (0, 0)) (bk BK396.out) hb)
      have n3_ := Aside0.mk (blk_below (g := gb397) (o := .cells #[.int .i64 a2_0, .int .i64 a2_1] 47 (0, 0)) (bk BK397.out) hb)
      have n4_ := Aside0.mk (blk_below (g := gb398) (o := .cells #[.int .i64 a3_0, .int .i64 a3_1] 25 (0, 0)) (bk BK398.out) hb)
      have n5_ := Aside0.mk (blk_below (g := gb399) (o := .cells #[.int .i64 a0] 27 (0, 0)) (bk BK399.out) hb)
      have n6_ := Aside0.mk (below_step (by repeat (first | (with_reducible first | exact HB.out | apply below_alloc | apply pw_below_drewN | apply below_drew1 | refine below_set ?_ GE396.out | refine below_set ?_ GE397.out | refine below_set ?_ GE398.out | refine below_set ?_ GE399.out) | exact HB.out)) hb)
      clear HO406
      clear HO410
      clear BK396
      clear BK397
      clear BK398
      clear BK399
      clear HB
      have HO406 := n0_
      have HO410 := n1_
      have BK396 := n2_
      have BK397 := n3_
      have BK398 := n4_
      have BK399 := n5_
      have HB := n6_
      clear n0_ n1_ n2_ n3_ n4_ n5_ n6_
      (try clear hb)
      (try clear hb2)
      (try clear hk)
      (try clear hi)
      refine hK.out _ _ ⟨(blk_cell BK399.out 0).trans rfl, (blk_cell BK396.out 0).trans rfl, (blk_cell BK396.out 1).trans rfl, (blk_cell BK396.out 2).trans rfl, (blk_cell BK396.out 3).trans rfl, (blk_cell BK397.out 0).trans rfl, (blk_cell BK397.out 1).trans rfl, (blk_cell BK398.out 0).trans rfl, (blk_cell BK398.out 1).trans rfl⟩ (fun hHeld => ?_)
      clear hK K
      refine norm_ (a' := ?_) ?_ ?_
      rotate_left
      ·show Act.put _ (some 41) _ = _
       simp only [Act.put, List.setIfInBounds_toArray, List.set_cons_zero, List.set_cons_succ, i64_w, i32_w]
       rfl
      refine one_ (i := 14) (N := some 43) #[true, true, true, true, true, true, true, true, true, true, true, true, true, true, true, true, true, true, false, false, false, false, false, false, false, false, false, false, false, false, false, false, false, false, false, false, false, false, false, false, false, false, false, false, false, false, false, false, false] rfl rfl (one_of HT_.out (by kernel_rfl)) (by decide) (fun K hK => ?_)
      refine goes_ Try.func23 (by kernel_rfl) rfl #[.agg #[.int .i64 a0], .agg #[.int .i64 t414, .int .i64 t415, .int .i64 t416, .int .i64 t417], .agg #[.int .i64 a2_0, .int .i64 a2_1]] (by rfl) rfl rfl (by (try simp only [List.map_toArray, List.map_cons, List.map_nil]); first | done | rfl | (simp only [List.length_drop, List.length_take]; rfl)) ?_
      with_reducible refine (window_Cut.calls k a0 t414 t415 t416 t417 a2_0 a2_1 t418 _ A13.out).mono ?_
      rintro e w47 ⟨v419, rfl, ho0, hb⟩
      refine ⟨_, rfl, ?_⟩
      have n0_ := Aside0.mk (Kd.R_elder' (br HO406.out) (Kd.R_base ho0) hb)
      have n1_ := Aside0.mk (Kd.R_below (br HO410.out) hb)
      have n2_ := Aside0.mk (Kd.R_lower (Kd.R_new' ho0 (Kd.R_lt (br HO406.out))) (below_size (by repeat (first | (with_reducible first | exact HB.out | apply below_alloc | apply pw_below_drewN | apply below_drew1 | refine below_set ?_ GE396.out | refine below_set ?_ GE397.out | refine below_set ?_ GE398.out | refine below_set ?_ GE399.out) | exact HB.out))))
      have n3_ := Aside0.mk (blk_below (g := gb396) (o := .cells #[.int .i64 a1_0, .int .i64 a1_1, .int .i64 a1_2, .int .i64 a1_3] 23 (0, 0)) (bk BK396.out) hb)
      have n4_ := Aside0.mk (blk_below (g := gb397) (o := .cells #[.int .i64 a2_0, .int .i64 a2_1] 47 (0, 0)) (bk BK397.out) hb)
      have n5_ := Aside0.mk (blk_below (g := gb398) (o := .cells #[.int .i64 a3_0, .int .i64 a3_1] 25 (0, 0)) (bk BK398.out) hb)
      have n6_ := Aside0.mk (blk_below (g := gb399) (o := .cells #[.int .i64 a0] 27 (0, 0)) (bk BK399.out) hb)
      have n7_ := Aside0.mk (below_step (by repeat (first | (with_reducible first | exact HB.out | apply below_alloc | apply pw_below_drewN | apply below_drew1 | refine below_set ?_ GE396.out | refine below_set ?_ GE397.out | refine below_set ?_ GE398.out | refine below_set ?_ GE399.out) | exact HB.out)) hb)
      clear HO406
      clear HO410
      clear BK396
      clear BK397
      clear BK398
      clear BK399
      clear HB
      have HO406 := n0_
      have HO410 := n1_
      have HO420 := n2_
      have BK396 := n3_
      have BK397 := n4_
      have BK398 := n5_
      have BK399 := n6_
      have HB := n7_
      clear n0_ n1_ n2_ n3_ n4_ n5_ n6_ n7_
      (try clear hb)
      (try clear hb2)
      (try clear hk)
      (try clear hi)
      (try clear ho0)
      refine hK.out _ _ ⟨(blk_cell BK399.out 0).trans rfl, (blk_cell BK396.out 0).trans rfl, (blk_cell BK396.out 1).trans rfl, (blk_cell BK396.out 2).trans rfl, (blk_cell BK396.out 3).trans rfl, (blk_cell BK397.out 0).trans rfl, (blk_cell BK397.out 1).trans rfl, (blk_cell BK398.out 0).trans rfl, (blk_cell BK398.out 1).trans rfl⟩ (fun hHeld => ?_)
      clear hK K
      refine norm_ (a' := ?_) ?_ ?_
      rotate_left
      ·show Act.put _ (some 43) _ = _
       simp only [Act.put, List.setIfInBounds_toArray, List.set_cons_zero, List.set_cons_succ, i64_w, i32_w]
       rfl
      refine one_ (i := 18) (N := some 47) #[true, true, true, true, true, true, true, true, true, true, true, true, true, true, true, true, true, true, true, false, false, false, false, false, false, false, false, false, false, false, false, false, false, false, false, false, false, false, false, false, false, false, false, false, false, false, false, false, false] rfl rfl (one_of HT_.out (by kernel_rfl)) (by decide) (fun K hK => ?_)
      refine goes_ Try.func24 (by kernel_rfl) rfl #[.int .i64 a0, .agg #[.int .i64 a1_0, .int .i64 a1_1, .int .i64 a1_2, .int .i64 a1_3], .agg #[.int .i64 a2_0, .int .i64 a2_1]] (by rfl) rfl rfl (by (try simp only [List.map_toArray, List.map_cons, List.map_nil]); first | done | rfl | (simp only [List.length_drop, List.length_take]; rfl)) ?_
      with_reducible refine (gleberef04_Cut.calls k a0 a1_0 a1_1 a1_2 a1_3 a2_0 a2_1 t421 _ A14.out).mono ?_
      rintro e w48 ⟨v422, rfl, ho0, hb⟩
      refine ⟨_, rfl, ?_⟩
      have n0_ := Aside0.mk (Kd.R_below (br HO406.out) hb)
      have n1_ := Aside0.mk (Kd.R_elder' (br HO410.out) (Kd.R_base ho0) hb)
      have n2_ := Aside0.mk (Kd.R_below (br HO420.out) hb)
      have n3_ := Aside0.mk (Kd.R_lower (Kd.R_newB (Kd.R_new' ho0 (Kd.R_lt (br HO410.out))) (g := gb396) (o := .cells #[.int .i64 a1_0, .int .i64 a1_1, .int .i64 a1_2, .int .i64 a1_3] 23 (0, 0)) (bk BK396.out)) (below_size (by repeat (first | (with_reducible first | exact HB.out | apply below_alloc | apply pw_below_drewN | apply below_drew1 | refine below_set ?_ GE396.out | refine below_set ?_ GE397.out | refine below_set ?_ GE398.out | refine below_set ?_ GE399.out) | exact HB.out))))
      have n4_ := Aside0.mk (blk_below (g := gb396) (o := .cells #[.int .i64 a1_0, .int .i64 a1_1, .int .i64 a1_2, .int .i64 a1_3] 23 (0, 0)) (bk BK396.out) hb)
      have n5_ := Aside0.mk (blk_below (g := gb397) (o := .cells #[.int .i64 a2_0, .int .i64 a2_1] 47 (0, 0)) (bk BK397.out) hb)
      have n6_ := Aside0.mk (blk_below (g := gb398) (o := .cells #[.int .i64 a3_0, .int .i64 a3_1] 25 (0, 0)) (bk BK398.out) hb)
      have n7_ := Aside0.mk (blk_below (g := gb399) (o := .cells #[.int .i64 a0] 27 (0, 0)) (bk BK399.out) hb)
      have n8_ := Aside0.mk (below_step (by repeat (first | (with_reducible first | exact HB.out | apply below_alloc | apply pw_below_drewN | apply below_drew1 | refine below_set ?_ GE396.out | refine below_set ?_ GE397.out | refine below_set ?_ GE398.out | refine below_set ?_ GE399.out) | exact HB.out)) hb)
      clear HO406
      clear HO410
      clear HO420
      clear BK396
      clear BK397
      clear BK398
      clear BK399
      clear HB
      have HO406 := n0_
      have HO410 := n1_
      have HO420 := n2_
      have HO423 := n3_
      have BK396 := n4_
      have BK397 := n5_
      have BK398 := n6_
      have BK399 := n7_
      have HB := n8_
      clear n0_ n1_ n2_ n3_ n4_ n5_ n6_ n7_ n8_
      (try clear hb)
      (try clear hb2)
      (try clear hk)
      (try clear hi)
      (try clear ho0)
      obtain ⟨Ao49, co49, eo49⟩ := Kd.R_slice HO420.out
      (first | subst eo49 | (injection eo49 with f1_ f2_ f3_; have f4_ := f1_.symm; have f5_ := f3_.symm; clear f1_ f2_ f3_; subst f4_; subst f5_))
      obtain ⟨Ao50, co50, eo50⟩ := Kd.R_slice HO423.out
      (first | subst eo50 | (injection eo50 with f1_ f2_ f3_; have f4_ := f1_.symm; have f5_ := f3_.symm; clear f1_ f2_ f3_; subst f4_; subst f5_))
      refine hK.out _ _ ⟨(blk_cell BK399.out 0).trans rfl, (blk_cell BK396.out 0).trans rfl, (blk_cell BK396.out 1).trans rfl, (blk_cell BK396.out 2).trans rfl, (blk_cell BK396.out 3).trans rfl, (blk_cell BK397.out 0).trans rfl, (blk_cell BK397.out 1).trans rfl, (blk_cell BK398.out 0).trans rfl, (blk_cell BK398.out 1).trans rfl⟩ (fun hHeld => ?_)
      clear hK K
      refine norm_ (a' := ?_) ?_ ?_
      rotate_left
      ·show Act.put _ (some 47) _ = _
       simp only [Act.put, List.setIfInBounds_toArray, List.set_cons_zero, List.set_cons_succ, i64_w, i32_w]
       rfl
      refine one_ (i := 19) (N := some 48) #[true, true, true, true, true, true, true, true, true, true, true, true, true, true, true, true, true, true, true, true, false, false, false, false, false, false, false, false, false, false, false, false, false, false, false, false, false, false, false, false, false, false, false, false, false, false, false, false, false] rfl rfl (one_of HT_.out (by kernel_rfl)) (by decide) (fun K hK => ?_)
      refine goes_ Try.func22 (by kernel_rfl) rfl #[.slice Ao49 t418.length co49, .slice Ao50 t421.length co50] (by rfl) rfl rfl (by (try simp only [List.map_toArray, List.map_cons, List.map_nil]); first | done | rfl | (simp only [List.length_drop, List.length_take]; rfl)) ?_
      with_reducible refine (glebelaw04_Same.calls k _ _ t418 _ _ t421 true _ ?side1 ?side2 ?side3 ?side4 A15.out).mono ?_
      (case side1 => repeat (first | exact (Kd.R_reads' HO420.out).2.2 | (with_reducible refine Kd.C_alloc ?_ _) | (with_reducible refine Kd.C_drewN ?_ _) | (with_reducible refine Kd.C_drew ?_)))
      (case side2 => exact (Kd.R_reads' HO420.out).2.1)
      (case side3 => repeat (first | exact (Kd.R_reads' HO423.out).2.2 | (with_reducible refine Kd.C_alloc ?_ _) | (with_reducible refine Kd.C_drewN ?_ _) | (with_reducible refine Kd.C_drew ?_)))
      (case side4 => exact (Kd.R_reads' HO423.out).2.1)
      rintro e w51 ⟨rfl, hb⟩
      refine ⟨_, rfl, ?_⟩
      have n0_ := Aside0.mk (Kd.R_below (br HO406.out) hb)
      have n1_ := Aside0.mk (Kd.R_below (br HO410.out) hb)
      have n2_ := Aside0.mk (Kd.R_below (br HO420.out) hb)
      have n3_ := Aside0.mk (Kd.R_below (br HO423.out) hb)
      have n4_ := Aside0.mk (blk_below (g := gb396) (o := .cells #[.int .i64 a1_0, .int .i64 a1_1, .int .i64 a1_2, .int .i64 a1_3] 23 (0, 0)) (bk BK396.out) hb)
      have n5_ := Aside0.mk (blk_below (g := gb397) (o := .cells #[.int .i64 a2_0, .int .i64 a2_1] 47 (0, 0)) (bk BK397.out) hb)
      have n6_ := Aside0.mk (blk_below (g := gb398) (o := .cells #[.int .i64 a3_0, .int .i64 a3_1] 25 (0, 0)) (bk BK398.out) hb)
      have n7_ := Aside0.mk (blk_below (g := gb399) (o := .cells #[.int .i64 a0] 27 (0, 0)) (bk BK399.out) hb)
      have n8_ := Aside0.mk (below_step (by repeat (first | (with_reducible first | exact HB.out | apply below_alloc | apply pw_below_drewN | apply below_drew1 | refine below_set ?_ GE396.out | refine below_set ?_ GE397.out | refine below_set ?_ GE398.out | refine below_set ?_ GE399.out) | exact HB.out)) hb)
      clear HO406
      clear HO410
      clear HO420
      clear HO423
      clear BK396
      clear BK397
      clear BK398
      clear BK399
      clear HB
      have HO406 := n0_
      have HO410 := n1_
      have HO420 := n2_
      have HO423 := n3_
      have BK396 := n4_
      have BK397 := n5_
      have BK398 := n6_
      have BK399 := n7_
      have HB := n8_
      clear n0_ n1_ n2_ n3_ n4_ n5_ n6_ n7_ n8_
      (try clear hb)
      (try clear hb2)
      (try clear hk)
      (try clear hi)
      refine hK.out _ _ ⟨(blk_cell BK399.out 0).trans rfl, (blk_cell BK396.out 0).trans rfl, (blk_cell BK396.out 1).trans rfl, (blk_cell BK396.out 2).trans rfl, (blk_cell BK396.out 3).trans rfl, (blk_cell BK397.out 0).trans rfl, (blk_cell BK397.out 1).trans rfl, (blk_cell BK398.out 0).trans rfl, (blk_cell BK398.out 1).trans rfl⟩ (fun hHeld => ?_)
      clear hK K
      refine norm_ (a' := ?_) ?_ ?_
      rotate_left
      ·show Act.put _ (some 48) _ = _
       simp only [Act.put, List.setIfInBounds_toArray, List.set_cons_zero, List.set_cons_succ, i64_w, i32_w]
       rfl
      refine pure_ (i := 20) (N := some 49) (v := ?_) (a' := ?_) #[true, true, true, true, true, true, true, true, true, true, true, true, true, true, true, true, true, true, true, true, true, false, false, false, false, false, false, false, false, false, false, false, false, false, false, false, false, false, false, false, false, false, false, false, false, false, false, false, false] rfl rfl (any_of HT_.out (by kernel_rfl)) (fun _ _ _ h => h) (Or.inl ⟨by rfl, ?_⟩) ?_ ?_
      rotate_left
      ·intro w'
       go_simp
       with_reducible rfl
      rotate_left
      ·simp only [Act.put, List.setIfInBounds_toArray, List.set_cons_zero, List.set_cons_succ, i64_w, i32_w]
       rfl
      refine pure_ (i := 21) (N := some 50) (v := ?_) (a' := ?_) #[true, true, true, true, true, true, true, true, true, true, true, true, true, true, true, true, true, true, true, true, true, true, false, false, false, false, false, false, false, false, false, false, false, false, false, false, false, false, false, false, false, false, false, false, false, false, false, false, false] rfl rfl (any_of HT_.out (by kernel_rfl)) (fun _ _ _ h => h) (Or.inl ⟨by rfl, ?_⟩) ?_ ?_
      rotate_left
      ·intro w'
       go_simp
       with_reducible rfl
      rotate_left
      ·simp only [Act.put, List.setIfInBounds_toArray, List.set_cons_zero, List.set_cons_succ, i64_w, i32_w]
       rfl
      refine pure_ (i := 27) (N := some 56) (v := ?_) (a' := ?_) #[true, true, true, true, true, true, true, true, true, true, true, true, true, true, true, true, true, true, true, true, true, true, false, false, false, false, false, true, false, false, false, false, false, false, false, false, false, false, false, false, false, false, false, false, false, false, false, false, false] rfl rfl (any_of HT_.out (by kernel_rfl)) (fun _ _ _ h => h) (Or.inl ⟨by rfl, ?_⟩) ?_ ?_
      rotate_left
      ·intro w'
       go_simp
       with_reducible rfl
      rotate_left
      ·simp only [Act.put, List.setIfInBounds_toArray, List.set_cons_zero, List.set_cons_succ, i64_w, i32_w]
       rfl
      refine take_ (i := 22) (N := some 51) (v := ?_) (a' := ?_) #[true, true, true, true, true, true, true, true, true, true, true, true, true, true, true, true, true, true, true, true, true, true, true, false, false, false, false, true, false, false, false, false, false, false, false, false, false, false, false, false, false, false, false, false, false, false, false, false, false] rfl rfl (take_ofW HT_.out HW_.out (by kernel_rfl)) (fun _ _ _ h => h) (Or.inl ⟨by rfl, ?_⟩) hHeld ?_ ?_
      rotate_left
      ·rintro w' ⟨s0, s1, s2, s3, s4, s5, s6, s7, s8⟩
       go_simp
       with_reducible rfl
      rotate_left
      ·simp only [Act.put, List.setIfInBounds_toArray, List.set_cons_zero, List.set_cons_succ, i64_w, i32_w]
       rfl
      refine take_ (i := 23) (N := some 52) (v := ?_) (a' := ?_) #[true, true, true, true, true, true, true, true, true, true, true, true, true, true, true, true, true, true, true, true, true, true, true, true, false, false, false, true, false, false, false, false, false, false, false, false, false, false, false, false, false, false, false, false, false, false, false, false, false] rfl rfl (take_ofW HT_.out HW_.out (by kernel_rfl)) (fun _ _ _ h => h) (Or.inl ⟨by rfl, ?_⟩) hHeld ?_ ?_
      rotate_left
      ·rintro w' ⟨s0, s1, s2, s3, s4, s5, s6, s7, s8⟩
       go_simp
       with_reducible rfl
      rotate_left
      ·simp only [Act.put, List.setIfInBounds_toArray, List.set_cons_zero, List.set_cons_succ, i64_w, i32_w]
       rfl
      refine take_ (i := 25) (N := some 54) (v := ?_) (a' := ?_) #[true, true, true, true, true, true, true, true, true, true, true, true, true, true, true, true, true, true, true, true, true, true, true, true, false, true, false, true, false, false, false, false, false, false, false, false, false, false, false, false, false, false, false, false, false, false, false, false, false] rfl rfl (take_ofW HT_.out HW_.out (by kernel_rfl)) (fun _ _ _ h => h) (Or.inl ⟨by rfl, ?_⟩) hHeld ?_ ?_
      rotate_left
      ·rintro w' ⟨s0, s1, s2, s3, s4, s5, s6, s7, s8⟩
       go_simp
       with_reducible rfl
      rotate_left
      ·simp only [Act.put, List.setIfInBounds_toArray, List.set_cons_zero, List.set_cons_succ, i64_w, i32_w]
       rfl
      refine take_ (i := 28) (N := some 57) (v := ?_) (a' := ?_) #[true, true, true, true, true, true, true, true, true, true, true, true, true, true, true, true, true, true, true, true, true, true, true, true, false, true, false, true, true, false, false, false, false, false, false, false, false, false, false, false, false, false, false, false, false, false, false, false, false] rfl rfl (take_ofW HT_.out HW_.out (by kernel_rfl)) (fun _ _ _ h => h) (Or.inl ⟨by rfl, ?_⟩) hHeld ?_ ?_
      rotate_left
      ·rintro w' ⟨s0, s1, s2, s3, s4, s5, s6, s7, s8⟩
       go_simp
       with_reducible rfl
      rotate_left
      ·simp only [Act.put, List.setIfInBounds_toArray, List.set_cons_zero, List.set_cons_succ, i64_w, i32_w]
       rfl
      refine take_ (i := 29) (N := some 58) (v := ?_) (a' := ?_) #[true, true, true, true, true, true, true, true, true, true, true, true, true, true, true, true, true, true, true, true, true, true, true, true, false, true, false, true, true, true, false, false, false, false, false, false, false, false, false, false, false, false, false, false, false, false, false, false, false] rfl rfl (take_ofW HT_.out HW_.out (by kernel_rfl)) (fun _ _ _ h => h) (Or.inl ⟨by rfl, ?_⟩) hHeld ?_ ?_
      rotate_left
      ·rintro w' ⟨s0, s1, s2, s3, s4, s5, s6, s7, s8⟩
       go_simp
       with_reducible rfl
      rotate_left
      ·simp only [Act.put, List.setIfInBounds_toArray, List.set_cons_zero, List.set_cons_succ, i64_w, i32_w]
       rfl
      refine one_ (i := 24) (N := some 53) #[true, true, true, true, true, true, true, true, true, true, true, true, true, true, true, true, true, true, true, true, true, true, true, true, true, true, false, true, true, true, false, false, false, false, false, false, false, false, false, false, false, false, false, false, false, false, false, false, false] rfl rfl (one_of HT_.out (by kernel_rfl)) (by decide) (fun K hK => ?_)
      refine goes_ Try.func20 (by kernel_rfl) rfl #[.agg #[.int .i64 a1_0, .int .i64 a1_1, .int .i64 a1_2, .int .i64 a1_3]] (by rfl) rfl rfl (by (try simp only [List.map_toArray, List.map_cons, List.map_nil]); first | done | rfl | (simp only [List.length_drop, List.length_take]; rfl)) ?_
      with_reducible refine (glebelaw04_Own.calls a1_0 a1_1 a1_2 a1_3 t425 t426 t427 t428 _ A17.out).mono ?_
      rintro e w52 ⟨rfl, hb⟩
      refine ⟨_, rfl, ?_⟩
      have n0_ := Aside0.mk (Kd.R_below (br HO406.out) hb)
      have n1_ := Aside0.mk (Kd.R_below (br HO410.out) hb)
      have n2_ := Aside0.mk (Kd.R_below (br HO420.out) hb)
      have n3_ := Aside0.mk (Kd.R_below (br HO423.out) hb)
      have n4_ := Aside0.mk (blk_below (g := gb396) (o := .cells #[.int .i64 a1_0, .int .i64 a1_1, .int .i64 a1_2, .int .i64 a1_3] 23 (0, 0)) (bk BK396.out) hb)
      have n5_ := Aside0.mk (blk_below (g := gb397) (o := .cells #[.int .i64 a2_0, .int .i64 a2_1] 47 (0, 0)) (bk BK397.out) hb)
      have n6_ := Aside0.mk (blk_below (g := gb398) (o := .cells #[.int .i64 a3_0, .int .i64 a3_1] 25 (0, 0)) (bk BK398.out) hb)
      have n7_ := Aside0.mk (blk_below (g := gb399) (o := .cells #[.int .i64 a0] 27 (0, 0)) (bk BK399.out) hb)
      have n8_ := Aside0.mk (below_step (by repeat (first | (with_reducible first | exact HB.out | apply below_alloc | apply pw_below_drewN | apply below_drew1 | refine below_set ?_ GE396.out | refine below_set ?_ GE397.out | refine below_set ?_ GE398.out | refine below_set ?_ GE399.out) | exact HB.out)) hb)
      clear HO406
      clear HO410
      clear HO420
      clear HO423
      clear BK396
      clear BK397
      clear BK398
      clear BK399
      clear HB
      have HO406 := n0_
      have HO410 := n1_
      have HO420 := n2_
      have HO423 := n3_
      have BK396 := n4_
      have BK397 := n5_
      have BK398 := n6_
      have BK399 := n7_
      have HB := n8_
      clear n0_ n1_ n2_ n3_ n4_ n5_ n6_ n7_ n8_
      (try clear hb)
      (try clear hb2)
      (try clear hk)
      (try clear hi)
      refine hK.out _ _ ⟨(blk_cell BK399.out 0).trans rfl, (blk_cell BK396.out 0).trans rfl, (blk_cell BK396.out 1).trans rfl, (blk_cell BK396.out 2).trans rfl, (blk_cell BK396.out 3).trans rfl, (blk_cell BK397.out 0).trans rfl, (blk_cell BK397.out 1).trans rfl, (blk_cell BK398.out 0).trans rfl, (blk_cell BK398.out 1).trans rfl⟩ (fun hHeld => ?_)
      clear hK K
      refine norm_ (a' := ?_) ?_ ?_
      rotate_left
      ·show Act.put _ (some 53) _ = _
       simp only [Act.put, List.setIfInBounds_toArray, List.set_cons_zero, List.set_cons_succ, i64_w, i32_w]
       rfl
      refine one_ (i := 26) (N := some 55) #[true, true, true, true, true, true, true, true, true, true, true, true, true, true, true, true, true, true, true, true, true, true, true, true, true, true, true, true, true, true, false, false, false, false, false, false, false, false, false, false, false, false, false, false, false, false, false, false, false] rfl rfl (one_of HT_.out (by kernel_rfl)) (by decide) (fun K hK => ?_)
      refine goes_ Try.func25 (by kernel_rfl) rfl #[.agg #[.int .i64 a0], .agg #[.int .i64 t425, .int .i64 t426, .int .i64 t427, .int .i64 t428], .agg #[.int .i64 a2_0, .int .i64 a2_1]] (by rfl) rfl rfl (by (try simp only [List.map_toArray, List.map_cons, List.map_nil]); first | done | rfl | (simp only [List.length_drop, List.length_take]; rfl)) ?_
      with_reducible refine (window_Covers.calls k a0 t425 t426 t427 t428 a2_0 a2_1 t429 _ A18.out).mono ?_
      rintro e w53 ⟨rfl, hb⟩
      refine ⟨_, rfl, ?_⟩
      have n0_ := Aside0.mk (Kd.R_below (br HO406.out) hb)
      have n1_ := Aside0.mk (Kd.R_below (br HO410.out) hb)
      have n2_ := Aside0.mk (Kd.R_below (br HO420.out) hb)
      have n3_ := Aside0.mk (Kd.R_below (br HO423.out) hb)
      have n4_ := Aside0.mk (blk_below (g := gb396) (o := .cells #[.int .i64 a1_0, .int .i64 a1_1, .int .i64 a1_2, .int .i64 a1_3] 23 (0, 0)) (bk BK396.out) hb)
      have n5_ := Aside0.mk (blk_below (g := gb397) (o := .cells #[.int .i64 a2_0, .int .i64 a2_1] 47 (0, 0)) (bk BK397.out) hb)
      have n6_ := Aside0.mk (blk_below (g := gb398) (o := .cells #[.int .i64 a3_0, .int .i64 a3_1] 25 (0, 0)) (bk BK398.out) hb)
      have n7_ := Aside0.mk (blk_below (g := gb399) (o := .cells #[.int .i64 a0] 27 (0, 0)) (bk BK399.out) hb)
      have n8_ := Aside0.mk (below_step (by repeat (first | (with_reducible first | exact HB.out | apply below_alloc | apply pw_below_drewN | apply below_drew1 | refine below_set ?_ GE396.out | refine below_set ?_ GE397.out | refine below_set ?_ GE398.out | refine below_set ?_ GE399.out) | exact HB.out)) hb)
      clear HO406
      clear HO410
      clear HO420
      clear HO423
      clear BK396
      clear BK397
      clear BK398
      clear BK399
      clear HB
      have HO406 := n0_
      have HO410 := n1_
      have HO420 := n2_
      have HO423 := n3_
      have BK396 := n4_
      have BK397 := n5_
      have BK398 := n6_
      have BK399 := n7_
      have HB := n8_
      clear n0_ n1_ n2_ n3_ n4_ n5_ n6_ n7_ n8_
      (try clear hb)
      (try clear hb2)
      (try clear hk)
      (try clear hi)
      refine hK.out _ _ ⟨(blk_cell BK399.out 0).trans rfl, (blk_cell BK396.out 0).trans rfl, (blk_cell BK396.out 1).trans rfl, (blk_cell BK396.out 2).trans rfl, (blk_cell BK396.out 3).trans rfl, (blk_cell BK397.out 0).trans rfl, (blk_cell BK397.out 1).trans rfl, (blk_cell BK398.out 0).trans rfl, (blk_cell BK398.out 1).trans rfl⟩ (fun hHeld => ?_)
      clear hK K
      refine norm_ (a' := ?_) ?_ ?_
      rotate_left
      ·show Act.put _ (some 55) _ = _
       simp only [Act.put, List.setIfInBounds_toArray, List.set_cons_zero, List.set_cons_succ, i64_w, i32_w]
       rfl
      refine one_ (i := 30) (N := some 59) #[true, true, true, true, true, true, true, true, true, true, true, true, true, true, true, true, true, true, true, true, true, true, true, true, true, true, true, true, true, true, true, false, false, false, false, false, false, false, false, false, false, false, false, false, false, false, false, false, false] rfl rfl (one_of HT_.out (by kernel_rfl)) (by decide) (fun K hK => ?_)
      refine goes_ Try.func26 (by kernel_rfl) rfl #[.int .i64 a0, .agg #[.int .i64 a1_0, .int .i64 a1_1, .int .i64 a1_2, .int .i64 a1_3], .agg #[.int .i64 a2_0, .int .i64 a2_1]] (by rfl) rfl rfl (by (try simp only [List.map_toArray, List.map_cons, List.map_nil]); first | done | rfl | (simp only [List.length_drop, List.length_take]; rfl)) ?_
      with_reducible refine (gleberef04_Covers.calls k a0 a1_0 a1_1 a1_2 a1_3 a2_0 a2_1 t430 _ A19.out).mono ?_
      rintro e w54 ⟨rfl, hb⟩
      refine ⟨_, rfl, ?_⟩
      have n0_ := Aside0.mk (Kd.R_below (br HO406.out) hb)
      have n1_ := Aside0.mk (Kd.R_below (br HO410.out) hb)
      have n2_ := Aside0.mk (Kd.R_below (br HO420.out) hb)
      have n3_ := Aside0.mk (Kd.R_below (br HO423.out) hb)
      have n4_ := Aside0.mk (blk_below (g := gb396) (o := .cells #[.int .i64 a1_0, .int .i64 a1_1, .int .i64 a1_2, .int .i64 a1_3] 23 (0, 0)) (bk BK396.out) hb)
      have n5_ := Aside0.mk (blk_below (g := gb397) (o := .cells #[.int .i64 a2_0, .int .i64 a2_1] 47 (0, 0)) (bk BK397.out) hb)
      have n6_ := Aside0.mk (blk_below (g := gb398) (o := .cells #[.int .i64 a3_0, .int .i64 a3_1] 25 (0, 0)) (bk BK398.out) hb)
      have n7_ := Aside0.mk (blk_below (g := gb399) (o := .cells #[.int .i64 a0] 27 (0, 0)) (bk BK399.out) hb)
      have n8_ := Aside0.mk (below_step (by repeat (first | (with_reducible first | exact HB.out | apply below_alloc | apply pw_below_drewN | apply below_drew1 | refine below_set ?_ GE396.out | refine below_set ?_ GE397.out | refine below_set ?_ GE398.out | refine below_set ?_ GE399.out) | exact HB.out)) hb)
      clear HO406
      clear HO410
      clear HO420
      clear HO423
      clear BK396
      clear BK397
      clear BK398
      clear BK399
      clear HB
      have HO406 := n0_
      have HO410 := n1_
      have HO420 := n2_
      have HO423 := n3_
      have BK396 := n4_
      have BK397 := n5_
      have BK398 := n6_
      have BK399 := n7_
      have HB := n8_
      clear n0_ n1_ n2_ n3_ n4_ n5_ n6_ n7_ n8_
      (try clear hb)
      (try clear hb2)
      (try clear hk)
      (try clear hi)
      refine hK.out _ _ ⟨(blk_cell BK399.out 0).trans rfl, (blk_cell BK396.out 0).trans rfl, (blk_cell BK396.out 1).trans rfl, (blk_cell BK396.out 2).trans rfl, (blk_cell BK396.out 3).trans rfl, (blk_cell BK397.out 0).trans rfl, (blk_cell BK397.out 1).trans rfl, (blk_cell BK398.out 0).trans rfl, (blk_cell BK398.out 1).trans rfl⟩ (fun hHeld => ?_)
      clear hK K
      refine norm_ (a' := ?_) ?_ ?_
      rotate_left
      ·show Act.put _ (some 59) _ = _
       simp only [Act.put, List.setIfInBounds_toArray, List.set_cons_zero, List.set_cons_succ, i64_w, i32_w]
       rfl
      refine pure_ (i := 31) (N := some 60) (v := ?_) (a' := ?_) #[true, true, true, true, true, true, true, true, true, true, true, true, true, true, true, true, true, true, true, true, true, true, true, true, true, true, true, true, true, true, true, true, false, false, false, false, false, false, false, false, false, false, false, false, false, false, false, false, false] rfl rfl (any_of HT_.out (by kernel_rfl)) (fun _ _ _ h => h) (Or.inl ⟨by rfl, ?_⟩) ?_ ?_
      rotate_left
      ·intro w'
       go_simp
       with_reducible rfl
      rotate_left
      ·simp only [Act.put, List.setIfInBounds_toArray, List.set_cons_zero, List.set_cons_succ, i64_w, i32_w]
       rfl
      refine pure_ (i := 32) (N := some 61) (v := ?_) (a' := ?_) #[true, true, true, true, true, true, true, true, true, true, true, true, true, true, true, true, true, true, true, true, true, true, true, true, true, true, true, true, true, true, true, true, true, false, false, false, false, false, false, false, false, false, false, false, false, false, false, false, false] rfl rfl (any_of HT_.out (by kernel_rfl)) (fun _ _ _ h => h) (Or.inl ⟨by rfl, ?_⟩) ?_ ?_
      rotate_left
      ·intro w'
       go_simp
       with_reducible rfl
      rotate_left
      ·simp only [Act.put, List.setIfInBounds_toArray, List.set_cons_zero, List.set_cons_succ, i64_w, i32_w]
       rfl
      refine pure_ (i := 33) (N := some 62) (v := ?_) (a' := ?_) #[true, true, true, true, true, true, true, true, true, true, true, true, true, true, true, true, true, true, true, true, true, true, true, true, true, true, true, true, true, true, true, true, true, true, false, false, false, false, false, false, false, false, false, false, false, false, false, false, false] rfl rfl (any_of HT_.out (by kernel_rfl)) (fun _ _ _ h => h) (Or.inl ⟨by rfl, ?_⟩) ?_ ?_
      rotate_left
      ·intro w'
       go_simp
       with_reducible rfl
      rotate_left
      ·simp only [Act.put, List.setIfInBounds_toArray, List.set_cons_zero, List.set_cons_succ, i64_w, i32_w]
       rfl
      refine pure_ (i := 39) (N := some 68) (v := ?_) (a' := ?_) #[true, true, true, true, true, true, true, true, true, true, true, true, true, true, true, true, true, true, true, true, true, true, true, true, true, true, true, true, true, true, true, true, true, true, false, false, false, false, false, true, false, false, false, false, false, false, false, false, false] rfl rfl (any_of HT_.out (by kernel_rfl)) (fun _ _ _ h => h) (Or.inl ⟨by rfl, ?_⟩) ?_ ?_
      rotate_left
      ·intro w'
       go_simp
       with_reducible rfl
      rotate_left
      ·simp only [Act.put, List.setIfInBounds_toArray, List.set_cons_zero, List.set_cons_succ, i64_w, i32_w]
       rfl
      refine take_ (i := 34) (N := some 63) (v := ?_) (a' := ?_) #[true, true, true, true, true, true, true, true, true, true, true, true, true, true, true, true, true, true, true, true, true, true, true, true, true, true, true, true, true, true, true, true, true, true, true, false, false, false, false, true, false, false, false, false, false, false, false, false, false] rfl rfl (take_ofW HT_.out HW_.out (by kernel_rfl)) (fun _ _ _ h => h) (Or.inl ⟨by rfl, ?_⟩) hHeld ?_ ?_
      rotate_left
      ·rintro w' ⟨s0, s1, s2, s3, s4, s5, s6, s7, s8⟩
       go_simp
       with_reducible rfl
      rotate_left
      ·simp only [Act.put, List.setIfInBounds_toArray, List.set_cons_zero, List.set_cons_succ, i64_w, i32_w]
       rfl
      refine take_ (i := 35) (N := some 64) (v := ?_) (a' := ?_) #[true, true, true, true, true, true, true, true, true, true, true, true, true, true, true, true, true, true, true, true, true, true, true, true, true, true, true, true, true, true, true, true, true, true, true, true, false, false, false, true, false, false, false, false, false, false, false, false, false] rfl rfl (take_ofW HT_.out HW_.out (by kernel_rfl)) (fun _ _ _ h => h) (Or.inl ⟨by rfl, ?_⟩) hHeld ?_ ?_
      rotate_left
      ·rintro w' ⟨s0, s1, s2, s3, s4, s5, s6, s7, s8⟩
       go_simp
       with_reducible rfl
      rotate_left
      ·simp only [Act.put, List.setIfInBounds_toArray, List.set_cons_zero, List.set_cons_succ, i64_w, i32_w]
       rfl
      refine take_ (i := 37) (N := some 66) (v := ?_) (a' := ?_) #[true, true, true, true, true, true, true, true, true, true, true, true, true, true, true, true, true, true, true, true, true, true, true, true, true, true, true, true, true, true, true, true, true, true, true, true, false, true, false, true, false, false, false, false, false, false, false, false, false] rfl rfl (take_ofW HT_.out HW_.out (by kernel_rfl)) (fun _ _ _ h => h) (Or.inl ⟨by rfl, ?_⟩) hHeld ?_ ?_
      rotate_left
      ·rintro w' ⟨s0, s1, s2, s3, s4, s5, s6, s7, s8⟩
       go_simp
       with_reducible rfl
      rotate_left
      ·simp only [Act.put, List.setIfInBounds_toArray, List.set_cons_zero, List.set_cons_succ, i64_w, i32_w]
       rfl
      refine take_ (i := 40) (N := some 69) (v := ?_) (a' := ?_) #[true, true, true, true, true, true, true, true, true, true, true, true, true, true, true, true, true, true, true, true, true, true, true, true, true, true, true, true, true, true, true, true, true, true, true, true, false, true, false, true, true, false, false, false, false, false, false, false, false] rfl rfl (take_ofW HT_.out HW_.out (by kernel_rfl)) (fun _ _ _ h => h) (Or.inl ⟨by rfl, ?_⟩) hHeld ?_ ?_
      rotate_left
      ·rintro w' ⟨s0, s1, s2, s3, s4, s5, s6, s7, s8⟩
       go_simp
       with_reducible rfl
      rotate_left
      ·simp only [Act.put, List.setIfInBounds_toArray, List.set_cons_zero, List.set_cons_succ, i64_w, i32_w]
       rfl
      refine take_ (i := 41) (N := some 70) (v := ?_) (a' := ?_) #[true, true, true, true, true, true, true, true, true, true, true, true, true, true, true, true, true, true, true, true, true, true, true, true, true, true, true, true, true, true, true, true, true, true, true, true, false, true, false, true, true, true, false, false, false, false, false, false, false] rfl rfl (take_ofW HT_.out HW_.out (by kernel_rfl)) (fun _ _ _ h => h) (Or.inl ⟨by rfl, ?_⟩) hHeld ?_ ?_
      rotate_left
      ·rintro w' ⟨s0, s1, s2, s3, s4, s5, s6, s7, s8⟩
       go_simp
       with_reducible rfl
      rotate_left
      ·simp only [Act.put, List.setIfInBounds_toArray, List.set_cons_zero, List.set_cons_succ, i64_w, i32_w]
       rfl
      refine one_ (i := 36) (N := some 65) #[true, true, true, true, true, true, true, true, true, true, true, true, true, true, true, true, true, true, true, true, true, true, true, true, true, true, true, true, true, true, true, true, true, true, true, true, true, true, false, true, true, true, false, false, false, false, false, false, false] rfl rfl (one_of HT_.out (by kernel_rfl)) (by decide) (fun K hK => ?_)
      refine goes_ Try.func20 (by kernel_rfl) rfl #[.agg #[.int .i64 a1_0, .int .i64 a1_1, .int .i64 a1_2, .int .i64 a1_3]] (by rfl) rfl rfl (by (try simp only [List.map_toArray, List.map_cons, List.map_nil]); first | done | rfl | (simp only [List.length_drop, List.length_take]; rfl)) ?_
      with_reducible refine (glebelaw04_Own.calls a1_0 a1_1 a1_2 a1_3 t431 t432 t433 t434 _ A21.out).mono ?_
      rintro e w55 ⟨rfl, hb⟩
      refine ⟨_, rfl, ?_⟩
      have n0_ := Aside0.mk (Kd.R_below (br HO406.out) hb)
      have n1_ := Aside0.mk (Kd.R_below (br HO410.out) hb)
      have n2_ := Aside0.mk (Kd.R_below (br HO420.out) hb)
      have n3_ := Aside0.mk (Kd.R_below (br HO423.out) hb)
      have n4_ := Aside0.mk (blk_below (g := gb396) (o := .cells #[.int .i64 a1_0, .int .i64 a1_1, .int .i64 a1_2, .int .i64 a1_3] 23 (0, 0)) (bk BK396.out) hb)
      have n5_ := Aside0.mk (blk_below (g := gb397) (o := .cells #[.int .i64 a2_0, .int .i64 a2_1] 47 (0, 0)) (bk BK397.out) hb)
      have n6_ := Aside0.mk (blk_below (g := gb398) (o := .cells #[.int .i64 a3_0, .int .i64 a3_1] 25 (0, 0)) (bk BK398.out) hb)
      have n7_ := Aside0.mk (blk_below (g := gb399) (o := .cells #[.int .i64 a0] 27 (0, 0)) (bk BK399.out) hb)
      have n8_ := Aside0.mk (below_step (by repeat (first | (with_reducible first | exact HB.out | apply below_alloc | apply pw_below_drewN | apply below_drew1 | refine below_set ?_ GE396.out | refine below_set ?_ GE397.out | refine below_set ?_ GE398.out | refine below_set ?_ GE399.out) | exact HB.out)) hb)
      clear HO406
      clear HO410
      clear HO420
      clear HO423
      clear BK396
      clear BK397
      clear BK398
      clear BK399
      clear HB
      have HO406 := n0_
      have HO410 := n1_
      have HO420 := n2_
      have HO423 := n3_
      have BK396 := n4_
      have BK397 := n5_
      have BK398 := n6_
      have BK399 := n7_
      have HB := n8_
      clear n0_ n1_ n2_ n3_ n4_ n5_ n6_ n7_ n8_
      (try clear hb)
      (try clear hb2)
      (try clear hk)
      (try clear hi)
      refine hK.out _ _ ⟨(blk_cell BK399.out 0).trans rfl, (blk_cell BK396.out 0).trans rfl, (blk_cell BK396.out 1).trans rfl, (blk_cell BK396.out 2).trans rfl, (blk_cell BK396.out 3).trans rfl, (blk_cell BK397.out 0).trans rfl, (blk_cell BK397.out 1).trans rfl, (blk_cell BK398.out 0).trans rfl, (blk_cell BK398.out 1).trans rfl⟩ (fun hHeld => ?_)
      clear hK K
      refine norm_ (a' := ?_) ?_ ?_
      rotate_left
      ·show Act.put _ (some 65) _ = _
       simp only [Act.put, List.setIfInBounds_toArray, List.set_cons_zero, List.set_cons_succ, i64_w, i32_w]
       rfl
      refine one_ (i := 38) (N := some 67) #[true, true, true, true, true, true, true, true, true, true, true, true, true, true, true, true, true, true, true, true, true, true, true, true, true, true, true, true, true, true, true, true, true, true, true, true, true, true, true, true, true, true, false, false, false, false, false, false, false] rfl rfl (one_of HT_.out (by kernel_rfl)) (by decide) (fun K hK => ?_)
      refine goes_ Try.func11 (by kernel_rfl) rfl #[.agg #[.int .i64 a0], .agg #[.int .i64 t431, .int .i64 t432, .int .i64 t433, .int .i64 t434], .agg #[.int .i64 a3_0, .int .i64 a3_1]] (by rfl) rfl rfl (by (try simp only [List.map_toArray, List.map_cons, List.map_nil]); first | done | rfl | (simp only [List.length_drop, List.length_take]; rfl)) ?_
      with_reducible refine (window_Dist.calls k a0 t431 t432 t433 t434 a3_0 a3_1 t435 _ A22.out).mono ?_
      rintro e w56 ⟨rfl, hb⟩
      refine ⟨_, rfl, ?_⟩
      have n0_ := Aside0.mk (Kd.R_below (br HO406.out) hb)
      have n1_ := Aside0.mk (Kd.R_below (br HO410.out) hb)
      have n2_ := Aside0.mk (Kd.R_below (br HO420.out) hb)
      have n3_ := Aside0.mk (Kd.R_below (br HO423.out) hb)
      have n4_ := Aside0.mk (blk_below (g := gb396) (o := .cells #[.int .i64 a1_0, .int .i64 a1_1, .int .i64 a1_2, .int .i64 a1_3] 23 (0, 0)) (bk BK396.out) hb)
      have n5_ := Aside0.mk (blk_below (g := gb397) (o := .cells #[.int .i64 a2_0, .int .i64 a2_1] 47 (0, 0)) (bk BK397.out) hb)
      have n6_ := Aside0.mk (blk_below (g := gb398) (o := .cells #[.int .i64 a3_0, .int .i64 a3_1] 25 (0, 0)) (bk BK398.out) hb)
      have n7_ := Aside0.mk (blk_below (g := gb399) (o := .cells #[.int .i64 a0] 27 (0, 0)) (bk BK399.out) hb)
      have n8_ := Aside0.mk (below_step (by repeat (first | (with_reducible first | exact HB.out | apply below_alloc | apply pw_below_drewN | apply below_drew1 | refine below_set ?_ GE396.out | refine below_set ?_ GE397.out | refine below_set ?_ GE398.out | refine below_set ?_ GE399.out) | exact HB.out)) hb)
      clear HO406
      clear HO410
      clear HO420
      clear HO423
      clear BK396
      clear BK397
      clear BK398
      clear BK399
      clear HB
      have HO406 := n0_
      have HO410 := n1_
      have HO420 := n2_
      have HO423 := n3_
      have BK396 := n4_
      have BK397 := n5_
      have BK398 := n6_
      have BK399 := n7_
      have HB := n8_
      clear n0_ n1_ n2_ n3_ n4_ n5_ n6_ n7_ n8_
      (try clear hb)
      (try clear hb2)
      (try clear hk)
      (try clear hi)
      refine hK.out _ _ ⟨(blk_cell BK399.out 0).trans rfl, (blk_cell BK396.out 0).trans rfl, (blk_cell BK396.out 1).trans rfl, (blk_cell BK396.out 2).trans rfl, (blk_cell BK396.out 3).trans rfl, (blk_cell BK397.out 0).trans rfl, (blk_cell BK397.out 1).trans rfl, (blk_cell BK398.out 0).trans rfl, (blk_cell BK398.out 1).trans rfl⟩ (fun hHeld => ?_)
      clear hK K
      refine norm_ (a' := ?_) ?_ ?_
      rotate_left
      ·show Act.put _ (some 67) _ = _
       simp only [Act.put, List.setIfInBounds_toArray, List.set_cons_zero, List.set_cons_succ, i64_w, i32_w]
       rfl
      refine one_ (i := 42) (N := some 71) #[true, true, true, true, true, true, true, true, true, true, true, true, true, true, true, true, true, true, true, true, true, true, true, true, true, true, true, true, true, true, true, true, true, true, true, true, true, true, true, true, true, true, true, false, false, false, false, false, false] rfl rfl (one_of HT_.out (by kernel_rfl)) (by decide) (fun K hK => ?_)
      refine goes_ Try.func27 (by kernel_rfl) rfl #[.int .i64 a0, .agg #[.int .i64 a1_0, .int .i64 a1_1, .int .i64 a1_2, .int .i64 a1_3], .agg #[.int .i64 a3_0, .int .i64 a3_1]] (by rfl) rfl rfl (by (try simp only [List.map_toArray, List.map_cons, List.map_nil]); first | done | rfl | (simp only [List.length_drop, List.length_take]; rfl)) ?_
      with_reducible refine (gleberef04_Dist.calls k a0 a1_0 a1_1 a1_2 a1_3 a3_0 a3_1 t436 _ A23.out).mono ?_
      rintro e w57 ⟨rfl, hb⟩
      refine ⟨_, rfl, ?_⟩
      have n0_ := Aside0.mk (Kd.R_below (br HO406.out) hb)
      have n1_ := Aside0.mk (Kd.R_below (br HO410.out) hb)
      have n2_ := Aside0.mk (Kd.R_below (br HO420.out) hb)
      have n3_ := Aside0.mk (Kd.R_below (br HO423.out) hb)
      have n4_ := Aside0.mk (blk_below (g := gb396) (o := .cells #[.int .i64 a1_0, .int .i64 a1_1, .int .i64 a1_2, .int .i64 a1_3] 23 (0, 0)) (bk BK396.out) hb)
      have n5_ := Aside0.mk (blk_below (g := gb397) (o := .cells #[.int .i64 a2_0, .int .i64 a2_1] 47 (0, 0)) (bk BK397.out) hb)
      have n6_ := Aside0.mk (blk_below (g := gb398) (o := .cells #[.int .i64 a3_0, .int .i64 a3_1] 25 (0, 0)) (bk BK398.out) hb)
      have n7_ := Aside0.mk (blk_below (g := gb399) (o := .cells #[.int .i64 a0] 27 (0, 0)) (bk BK399.out) hb)
      have n8_ := Aside0.mk (below_step (by repeat (first | (with_reducible first | exact HB.out | apply below_alloc | apply pw_below_drewN | apply below_drew1 | refine below_set ?_ GE396.out | refine below_set ?_ GE397.out | refine below_set ?_ GE398.out | refine below_set ?_ GE399.out) | exact HB.out)) hb)
      clear HO406
      clear HO410
      clear HO420
      clear HO423
      clear BK396
      clear BK397
      clear BK398
      clear BK399
      clear HB
      have HO406 := n0_
      have HO410 := n1_
      have HO420 := n2_
      have HO423 := n3_
      have BK396 := n4_
      have BK397 := n5_
      have BK398 := n6_
      have BK399 := n7_
      have HB := n8_
      clear n0_ n1_ n2_ n3_ n4_ n5_ n6_ n7_ n8_
      (try clear hb)
      (try clear hb2)
      (try clear hk)
      (try clear hi)
      refine hK.out _ _ ⟨(blk_cell BK399.out 0).trans rfl, (blk_cell BK396.out 0).trans rfl, (blk_cell BK396.out 1).trans rfl, (blk_cell BK396.out 2).trans rfl, (blk_cell BK396.out 3).trans rfl, (blk_cell BK397.out 0).trans rfl, (blk_cell BK397.out 1).trans rfl, (blk_cell BK398.out 0).trans rfl, (blk_cell BK398.out 1).trans rfl⟩ (fun hHeld => ?_)
      clear hK K
      refine norm_ (a' := ?_) ?_ ?_
      rotate_left
      ·show Act.put _ (some 71) _ = _
       simp only [Act.put, List.setIfInBounds_toArray, List.set_cons_zero, List.set_cons_succ, i64_w, i32_w]
       rfl
      refine pure_ (i := 43) (N := some 72) (v := ?_) (a' := ?_) #[true, true, true, true, true, true, true, true, true, true, true, true, true, true, true, true, true, true, true, true, true, true, true, true, true, true, true, true, true, true, true, true, true, true, true, true, true, true, true, true, true, true, true, true, false, false, false, false, false] rfl rfl (any_of HT_.out (by kernel_rfl)) (fun _ _ _ h => h) (Or.inl ⟨by rfl, ?_⟩) ?_ ?_
      rotate_left
      ·intro w'
       go_simp
       with_reducible rfl
      rotate_left
      ·simp only [Act.put, List.setIfInBounds_toArray, List.set_cons_zero, List.set_cons_succ, i64_w, i32_w]
       rfl
      refine pure_ (i := 44) (N := some 73) (v := ?_) (a' := ?_) #[true, true, true, true, true, true, true, true, true, true, true, true, true, true, true, true, true, true, true, true, true, true, true, true, true, true, true, true, true, true, true, true, true, true, true, true, true, true, true, true, true, true, true, true, true, false, false, false, false] rfl rfl (any_of HT_.out (by kernel_rfl)) (fun _ _ _ h => h) (Or.inl ⟨by rfl, ?_⟩) ?_ ?_
      rotate_left
      ·intro w'
       go_simp
       with_reducible rfl
      rotate_left
      ·simp only [Act.put, List.setIfInBounds_toArray, List.set_cons_zero, List.set_cons_succ, i64_w, i32_w]
       rfl
      refine pure_ (i := 45) (N := some 74) (v := ?_) (a' := ?_) #[true, true, true, true, true, true, true, true, true, true, true, true, true, true, true, true, true, true, true, true, true, true, true, true, true, true, true, true, true, true, true, true, true, true, true, true, true, true, true, true, true, true, true, true, true, true, false, false, false] rfl rfl (any_of HT_.out (by kernel_rfl)) (fun _ _ _ h => h) (Or.inl ⟨by rfl, ?_⟩) ?_ ?_
      rotate_left
      ·intro w'
       go_simp
       with_reducible rfl
      rotate_left
      ·simp only [Act.put, List.setIfInBounds_toArray, List.set_cons_zero, List.set_cons_succ, i64_w, i32_w]
       rfl
      refine one_ (i := 46) (N := some 75) #[true, true, true, true, true, true, true, true, true, true, true, true, true, true, true, true, true, true, true, true, true, true, true, true, true, true, true, true, true, true, true, true, true, true, true, true, true, true, true, true, true, true, true, true, true, true, true, false, false] rfl rfl (one_of HT_.out (by kernel_rfl)) (by decide) (fun K hK => ?_)
      refine goes_ Try.func12 (by kernel_rfl) rfl #[] (by rfl) rfl rfl (by (try simp only [List.map_toArray, List.map_cons, List.map_nil]); first | done | rfl | (simp only [List.length_drop, List.length_take]; rfl)) ?_
      with_reducible refine (glebelaw04_knows.calls k  t437 _ A25.out).mono ?_
      rintro e w58 ⟨rfl, hb⟩
      refine ⟨_, rfl, ?_⟩
      have n0_ := Aside0.mk (Kd.R_below (br HO406.out) hb)
      have n1_ := Aside0.mk (Kd.R_below (br HO410.out) hb)
      have n2_ := Aside0.mk (Kd.R_below (br HO420.out) hb)
      have n3_ := Aside0.mk (Kd.R_below (br HO423.out) hb)
      have n4_ := Aside0.mk (blk_below (g := gb396) (o := .cells #[.int .i64 a1_0, .int .i64 a1_1, .int .i64 a1_2, .int .i64 a1_3] 23 (0, 0)) (bk BK396.out) hb)
      have n5_ := Aside0.mk (blk_below (g := gb397) (o := .cells #[.int .i64 a2_0, .int .i64 a2_1] 47 (0, 0)) (bk BK397.out) hb)
      have n6_ := Aside0.mk (blk_below (g := gb398) (o := .cells #[.int .i64 a3_0, .int .i64 a3_1] 25 (0, 0)) (bk BK398.out) hb)
      have n7_ := Aside0.mk (blk_below (g := gb399) (o := .cells #[.int .i64 a0] 27 (0, 0)) (bk BK399.out) hb)
      have n8_ := Aside0.mk (below_step (by repeat (first | (with_reducible first | exact HB.out | apply below_alloc | apply pw_below_drewN | apply below_drew1 | refine below_set ?_ GE396.out | refine below_set ?_ GE397.out | refine below_set ?_ GE398.out | refine below_set ?_ GE399.out) | exact HB.out)) hb)
      clear HO406
      clear HO410
      clear HO420
      clear HO423
      clear BK396
      clear BK397
      clear BK398
      clear BK399
      clear HB
      have HO406 := n0_
      have HO410 := n1_
      have HO420 := n2_
      have HO423 := n3_
      have BK396 := n4_
      have BK397 := n5_
      have BK398 := n6_
      have BK399 := n7_
      have HB := n8_
      clear n0_ n1_ n2_ n3_ n4_ n5_ n6_ n7_ n8_
      (try clear hb)
      (try clear hb2)
      (try clear hk)
      (try clear hi)
      refine hK.out _ _ ⟨(blk_cell BK399.out 0).trans rfl, (blk_cell BK396.out 0).trans rfl, (blk_cell BK396.out 1).trans rfl, (blk_cell BK396.out 2).trans rfl, (blk_cell BK396.out 3).trans rfl, (blk_cell BK397.out 0).trans rfl, (blk_cell BK397.out 1).trans rfl, (blk_cell BK398.out 0).trans rfl, (blk_cell BK398.out 1).trans rfl⟩ (fun hHeld => ?_)
      clear hK K
      refine norm_ (a' := ?_) ?_ ?_
      rotate_left
      ·show Act.put _ (some 75) _ = _
       simp only [Act.put, List.setIfInBounds_toArray, List.set_cons_zero, List.set_cons_succ, i64_w, i32_w]
       rfl
      refine pure_ (i := 47) (N := some 76) (v := ?_) (a' := ?_) #[true, true, true, true, true, true, true, true, true, true, true, true, true, true, true, true, true, true, true, true, true, true, true, true, true, true, true, true, true, true, true, true, true, true, true, true, true, true, true, true, true, true, true, true, true, true, true, true, false] rfl rfl (any_of HT_.out (by kernel_rfl)) (fun _ _ _ h => h) (Or.inl ⟨by rfl, ?_⟩) ?_ ?_
      rotate_left
      ·intro w'
       go_simp
       with_reducible rfl
      rotate_left
      ·simp only [Act.put, List.setIfInBounds_toArray, List.set_cons_zero, List.set_cons_succ, i64_w, i32_w]
       rfl
      refine pure_ (i := 48) (N := some 8) (v := ?_) (a' := ?_) #[true, true, true, true, true, true, true, true, true, true, true, true, true, true, true, true, true, true, true, true, true, true, true, true, true, true, true, true, true, true, true, true, true, true, true, true, true, true, true, true, true, true, true, true, true, true, true, true, true] rfl rfl (any_of HT_.out (by kernel_rfl)) (fun _ _ _ h => h) (Or.inl ⟨by rfl, ?_⟩) ?_ ?_
      rotate_left
      ·intro w'
       go_simp
       with_reducible rfl
      rotate_left
      ·simp only [Act.put, List.setIfInBounds_toArray, List.set_cons_zero, List.set_cons_succ, i64_w, i32_w]
       rfl
      refine done_ (done_of HT_.out (by kernel_rfl)) ?_
      try go_wp2
      go_ret
      exact ⟨by first | rfl | (simp [errW_none, errW_some] <;> rfl) | (simp [*, errW_none, errW_some] <;> rfl), by repeat (first | (with_reducible first | exact HB.out | apply below_alloc | apply pw_below_drewN | apply below_drew1 | refine below_set ?_ GE396.out | refine below_set ?_ GE397.out | refine below_set ?_ GE398.out | refine below_set ?_ GE399.out) | exact HB.out)⟩
     ·rw [if_neg c24] at H
      exact absurd H (by simp)
    ·rw [if_neg c20] at H
     exact absurd H (by simp)
   ·replace c16 := Bool.eq_false_iff.mpr c16
    subst c16
    have H1 : (none) = some r := by rw [if_neg (show ¬ (false = true) by decide)] at H; exact H
    clear H
    have H := H1
    clear H1
    exact absurd H (by simp)
  ·rw [if_neg c11] at H
   exact absurd H (by simp)
 ·replace c9 := Bool.eq_false_iff.mpr c9
  subst c9
  have H1 : (none) = some r := by rw [if_neg (show ¬ (false = true) by decide)] at H; exact H
  clear H
  have H := H1
  clear H1
  exact absurd H (by simp)

end Go.Proofs.Ytnkfbkbllkdnoaa.PW
