-- Written by a program of this session (wip/tools/hp.py) over the kit's print; nothing here is trusted: Lean checks it.
import Derived.Test.YtnkfbkbllkdnoaaPWx0
import Derived.Test.YtnkfbkbllkdnoaaPWx9
import Derived.Test.YtnkfbkbllkdnoaaPWx3
import Derived.Test.YtnkfbkbllkdnoaaPWx2
import Derived.Test.YtnkfbkbllkdnoaaPWx7
namespace Go.Proofs.Ytnkfbkbllkdnoaa.PW
open Go.RowKit Go.Proofs.YtnkfbkbllkdnoaaW.PrintWords Go.Proofs.YtnkfbkbllkdnoaaW.PrintLast Go.Proofs.YtnkfbkbllkdnoaaW.PrintMore
attribute [local go_sem] max2_int min2_int max_two min_two max_three min_three max_four min_four   -- for this text's walks alone
set_option linter.unusedVariables false
set_option linter.unusedSimpArgs false

/-! ### glebelaw03_Some: function 28 -/
def glebelaw03_Some.f (a0 : Int) (a1_0 : Int) (a1_1 : Int) : Option (Int × Int) := if (wrap64 ((wrap64 (2 * a0)) + 1)) = 0 then (none) else (if 0 ≤ (IntKind.u64.wrap (Int.tmod (wrap64 ((wrap64 ((Int.tmod a1_0 (wrap64 ((wrap64 (2 * a0)) + 1))) + (wrap64 (2 * a0)))) + 1)) (wrap64 ((wrap64 (2 * a0)) + 1)))) then (if (shl .i64 1 (IntKind.u64.wrap (Int.tmod (wrap64 ((wrap64 ((Int.tmod a1_0 (wrap64 ((wrap64 (2 * a0)) + 1))) + (wrap64 (2 * a0)))) + 1)) (wrap64 ((wrap64 (2 * a0)) + 1))))) = 0 then (none) else (some (Int.tmod (wrap64 ((wrap64 ((Int.tmod a1_0 (wrap64 ((wrap64 (2 * a0)) + 1))) + (wrap64 (2 * a0)))) + 1)) (wrap64 ((wrap64 (2 * a0)) + 1)), Int.tmod (wrap64 ((Int.tmod a1_1 (shl .i64 1 (IntKind.u64.wrap (Int.tmod (wrap64 ((wrap64 ((Int.tmod a1_0 (wrap64 ((wrap64 (2 * a0)) + 1))) + (wrap64 (2 * a0)))) + 1)) (wrap64 ((wrap64 (2 * a0)) + 1)))))) + (shl .i64 1 (IntKind.u64.wrap (Int.tmod (wrap64 ((wrap64 ((Int.tmod a1_0 (wrap64 ((wrap64 (2 * a0)) + 1))) + (wrap64 (2 * a0)))) + 1)) (wrap64 ((wrap64 (2 * a0)) + 1))))))) (shl .i64 1 (IntKind.u64.wrap (Int.tmod (wrap64 ((wrap64 ((Int.tmod a1_0 (wrap64 ((wrap64 (2 * a0)) + 1))) + (wrap64 (2 * a0)))) + 1)) (wrap64 ((wrap64 (2 * a0)) + 1)))))))) else (none))
set_option maxHeartbeats 8000000 in
set_option maxRecDepth 100000 in
theorem glebelaw03_Some.calls (a0 : Int) (a1_0 : Int) (a1_1 : Int) (r1 : Int) (r2 : Int) (w : World) (h : glebelaw03_Some.f a0 a1_0 a1_1 = some (r1, r2)) :
  Calls Try.prog 28 #[.int .i64 a0, .agg #[.int .i64 a1_0, .int .i64 a1_1]] w fun e w' => e = .returned (.agg #[.int .i64 r1, .int .i64 r2]) ∧ Below w.heap.size w w' := by
 have hu47 := Try.underlying47
 have HB := Aside0.mk (Below.refl w.heap.size w)
 have H : (if (wrap64 ((wrap64 (2 * a0)) + 1)) = 0 then (none) else (if 0 ≤ (IntKind.u64.wrap (Int.tmod (wrap64 ((wrap64 ((Int.tmod a1_0 (wrap64 ((wrap64 (2 * a0)) + 1))) + (wrap64 (2 * a0)))) + 1)) (wrap64 ((wrap64 (2 * a0)) + 1)))) then (if (shl .i64 1 (IntKind.u64.wrap (Int.tmod (wrap64 ((wrap64 ((Int.tmod a1_0 (wrap64 ((wrap64 (2 * a0)) + 1))) + (wrap64 (2 * a0)))) + 1)) (wrap64 ((wrap64 (2 * a0)) + 1))))) = 0 then (none) else (some (Int.tmod (wrap64 ((wrap64 ((Int.tmod a1_0 (wrap64 ((wrap64 (2 * a0)) + 1))) + (wrap64 (2 * a0)))) + 1)) (wrap64 ((wrap64 (2 * a0)) + 1)), Int.tmod (wrap64 ((Int.tmod a1_1 (shl .i64 1 (IntKind.u64.wrap (Int.tmod (wrap64 ((wrap64 ((Int.tmod a1_0 (wrap64 ((wrap64 (2 * a0)) + 1))) + (wrap64 (2 * a0)))) + 1)) (wrap64 ((wrap64 (2 * a0)) + 1)))))) + (shl .i64 1 (IntKind.u64.wrap (Int.tmod (wrap64 ((wrap64 ((Int.tmod a1_0 (wrap64 ((wrap64 (2 * a0)) + 1))) + (wrap64 (2 * a0)))) + 1)) (wrap64 ((wrap64 (2 * a0)) + 1))))))) (shl .i64 1 (IntKind.u64.wrap (Int.tmod (wrap64 ((wrap64 ((Int.tmod a1_0 (wrap64 ((wrap64 (2 * a0)) + 1))) + (wrap64 (2 * a0)))) + 1)) (wrap64 ((wrap64 (2 * a0)) + 1)))))))) else (none))) = some (r1, r2) := h
 clear h
 by_cases c3 : (wrap64 ((wrap64 (2 * a0)) + 1)) = 0
 ·rw [if_pos c3] at H
  exact absurd H (by simp)
 ·rw [if_neg c3] at H
  have c3b0 : ((wrap64 ((wrap64 (2 * a0)) + 1)) == 0) = false := beq_eq_false_iff_ne.mpr c3
  have c3b1 : ((wrap64 ((wrap64 (2 * a0)) + 1)) != 0) = true := bne_iff_ne.mpr c3
  obtain ⟨ji4, hji4⟩ : ∃ j_ : Int, (IntKind.u64.wrap (Int.tmod (wrap64 ((wrap64 ((Int.tmod a1_0 (wrap64 ((wrap64 (2 * a0)) + 1))) + (wrap64 (2 * a0)))) + 1)) (wrap64 ((wrap64 (2 * a0)) + 1)))) = j_ := ⟨_, rfl⟩
  replace H : (if 0 ≤ (ji4) then (if (shl .i64 1 (ji4)) = 0 then (none) else (some (Int.tmod (wrap64 ((wrap64 ((Int.tmod a1_0 (wrap64 ((wrap64 (2 * a0)) + 1))) + (wrap64 (2 * a0)))) + 1)) (wrap64 ((wrap64 (2 * a0)) + 1)), Int.tmod (wrap64 ((Int.tmod a1_1 (shl .i64 1 (ji4))) + (shl .i64 1 (ji4)))) (shl .i64 1 (ji4))))) else (none)) = some (r1, r2) := by first | (rw [hji4] at H; exact H) | (simp only [hji4] at H ⊢; exact H)
  by_cases c5 : 0 ≤ (ji4)
  ·rw [if_pos c5] at H
   have c5b0 := eq_true c5
   have c5b1 : decide (0 ≤ (ji4)) = true := decide_eq_true c5
   clear c5
   obtain ⟨ji6, hji6⟩ : ∃ j_ : Int, (shl .i64 1 (ji4)) = j_ := ⟨_, rfl⟩
   replace H : (if (ji6) = 0 then (none) else (some (Int.tmod (wrap64 ((wrap64 ((Int.tmod a1_0 (wrap64 ((wrap64 (2 * a0)) + 1))) + (wrap64 (2 * a0)))) + 1)) (wrap64 ((wrap64 (2 * a0)) + 1)), Int.tmod (wrap64 ((Int.tmod a1_1 (ji6)) + (ji6))) (ji6)))) = some (r1, r2) := by first | (rw [hji6] at H; exact H) | (simp only [hji6] at H ⊢; exact H)
   have hji6_ : (IntKind.i64.wrap (1 * 2 ^ min (ji4).toNat 64)) = ji6 := hji6
   have hji6z : (ji4) ≤ 64 → (IntKind.i64.wrap (1 * 2 ^ (ji4).toNat)) = ji6 := shl_small hji6
   have hji6u : (IntKind.i64.wrap (2 ^ min (ji4).toNat 64)) = ji6 := by have h_ := hji6_; rw [Int.one_mul] at h_; exact h_
   have hji6v : (ji4) ≤ 64 → (IntKind.i64.wrap (2 ^ (ji4).toNat)) = ji6 := fun hle_ => by have h_ := hji6z hle_; rw [Int.one_mul] at h_; exact h_
   have hji6y : (wrap64 (1 * 2 ^ min (ji4).toNat 64)) = ji6 := (i64_w _).symm.trans hji6_
   have hji6x : (ji4) ≤ 64 → (wrap64 (1 * 2 ^ (ji4).toNat)) = ji6 := fun h_ => (i64_w _).symm.trans (hji6z h_)
   by_cases c7 : (ji6) = 0
   ·rw [if_pos c7] at H
    exact absurd H (by simp)
   ·rw [if_neg c7] at H
    have c7b0 : ((ji6) == 0) = false := beq_eq_false_iff_ne.mpr c7
    have c7b1 : ((ji6) != 0) = true := bne_iff_ne.mpr c7
    simp only [Option.some.injEq, Prod.mk.injEq] at H
    obtain ⟨rfl, rfl⟩ := H
    go_enter Try.func28, Try.ntmps28
    go_wp2_with (first | ((with_reducible refine gate_dst (N := 3) rfl ?_); refine box_event ?hg (N := 3) ?hd (cs := #[.int .i64 a1_0, .int .i64 a1_1]) (t := 47) ?hr ?_; (case hd => rfl); (case hg => rfl); (case hr => first | (go_simp; done) | (go_simp; rfl)); intro gb438 hg w8 hbox hb; have n0_ := Aside0.mk (below_step (bh HB.out) hb); have n1_ := Aside0.mk (hbox); have n2_ := Aside0.mk ((by rw [hg]; exact (below_size (bh HB.out)) : w.heap.size ≤ gb438)); have n3_ := Aside0.mk ((by rw [hg]; exact (below_size (bh HB.out)) : w.heap.size ≤ gb438)); clear HB; have HB := n0_; have BK438 := n1_; have GW438 := n2_; have GE438 := n3_; clear n0_ n1_ n2_ n3_; clear hb hbox hg) | ((with_reducible refine gate_dst (N := 4) rfl ?_); refine box_event ?hg (N := 4) ?hd (cs := #[.int .i64 0, .int .i64 0]) (t := 47) ?hr ?_; (case hd => rfl); (case hg => rfl); (case hr => first | (go_simp; done) | (go_simp; rfl)); intro gb439 hg w9 hbox hb; have n0_ := Aside0.mk (blk_below (g := gb438) (o := .cells #[.int .i64 a1_0, .int .i64 a1_1] 47 (0, 0)) (bk BK438.out) hb); have n1_ := Aside0.mk (below_step (by repeat (first | (with_reducible first | exact HB.out | apply below_alloc | apply pw_below_drewN | apply below_drew1 | refine below_set ?_ GE438.out) | exact HB.out)) hb); have n2_ := Aside0.mk (hbox); have n3_ := Aside0.mk ((by rw [hg]; exact (below_size (by repeat (first | (with_reducible first | exact HB.out | apply below_alloc | apply pw_below_drewN | apply below_drew1 | refine below_set ?_ GE438.out) | exact HB.out))) : w.heap.size ≤ gb439)); have n4_ := Aside0.mk ((by rw [hg]; exact (below_size (by repeat (first | (with_reducible first | exact HB.out | apply below_alloc | apply pw_below_drewN | apply below_drew1 | refine below_set ?_ GE438.out) | exact HB.out))) : w.heap.size ≤ gb439)); have n5_ := Aside0.mk ((by rw [hg]; exact Nat.ne_of_lt (blk_lt (g := gb438) (o := .cells #[.int .i64 a1_0, .int .i64 a1_1] 47 (0, 0)) (bk BK438.out)) : gb438 ≠ gb439)); have n6_ := Aside0.mk ((by rw [hg]; exact Nat.ne_of_gt (blk_lt (g := gb438) (o := .cells #[.int .i64 a1_0, .int .i64 a1_1] 47 (0, 0)) (bk BK438.out)) : gb439 ≠ gb438)); clear BK438; clear HB; have BK438 := n0_; have HB := n1_; have BK439 := n2_; have GW439 := n3_; have GE439 := n4_; have NB438_439 := n5_; have NB439_438 := n6_; clear n0_ n1_ n2_ n3_ n4_ n5_ n6_; clear hb hbox hg; have hnb10 := NB438_439.out; have hnc10 := NB439_438.out; have hcz11_0 : w9.cell? ⟨gb438, 0, none⟩ = some (.int .i64 a1_0) := (blk_cell BK438.out 0).trans rfl; have hcz11_1 : w9.cell? ⟨gb438, 1, none⟩ = some (.int .i64 a1_1) := (blk_cell BK438.out 1).trans rfl; have hfz11_0 := blk_frozen BK438.out 0; have hfz11_1 := blk_frozen BK438.out 1; have hcz12_0 : w9.cell? ⟨gb439, 0, none⟩ = some (.int .i64 0) := (blk_cell BK439.out 0).trans rfl; have hcz12_1 : w9.cell? ⟨gb439, 1, none⟩ = some (.int .i64 0) := (blk_cell BK439.out 1).trans rfl; have hfz12_0 := blk_frozen BK439.out 0; have hfz12_1 := blk_frozen BK439.out 1))
    refine bodyPost_ret (results_cell_row rfl _ _ gb439 47 #[.int .i64 (Int.tmod (wrap64 ((wrap64 ((Int.tmod a1_0 (wrap64 ((wrap64 (2 * a0)) + 1))) + (wrap64 (2 * a0)))) + 1)) (wrap64 ((wrap64 (2 * a0)) + 1))), .int .i64 (Int.tmod (wrap64 ((Int.tmod a1_1 (ji6)) + (ji6))) (ji6))] (0, 0) _ rfl (by (with_reducible repeat (first | refine blk_drewN ?_ _ | refine blk_drew ?_ | refine blk_alloc ?_ _)); refine blk_put (cs := #[.int .i64 (Int.tmod (wrap64 ((wrap64 ((Int.tmod a1_0 (wrap64 ((wrap64 (2 * a0)) + 1))) + (wrap64 (2 * a0)))) + 1)) (wrap64 ((wrap64 (2 * a0)) + 1))), .int .i64 0]) ?_ 1 _ rfl; (with_reducible repeat (first | refine blk_drewN ?_ _ | refine blk_drew ?_ | refine blk_alloc ?_ _)); refine blk_put (cs := #[.int .i64 0, .int .i64 0]) ?_ 0 _ rfl; (with_reducible repeat (first | refine blk_drewN ?_ _ | refine blk_drew ?_ | refine blk_alloc ?_ _)); exact BK439.out) Try.underlying47 rfl (by kernel_rfl)) rfl ?_
    exact ⟨by first | rfl | (simp [errW_none, errW_some] <;> rfl) | (simp only [← hji4, ← hji6]; first | rfl | (simp [errW_none, errW_some] <;> rfl)) | (simp [*, errW_none, errW_some] <;> rfl), by repeat (first | (with_reducible first | exact HB.out | apply below_alloc | apply pw_below_drewN | apply below_drew1 | refine below_set ?_ GE438.out | refine below_set ?_ GE439.out) | exact HB.out)⟩
  ·rw [if_neg c5] at H
   exact absurd H (by simp)

section
open Go.RowKit Go.Proofs.YtnkfbkbllkdnoaaW.PrintWords Go.Proofs.YtnkfbkbllkdnoaaW.PrintLast Go.Proofs.YtnkfbkbllkdnoaaW.PrintMore
attribute [local go_sem] max2_int min2_int max_two min_two max_three min_three max_four min_four   -- for this text's walks alone
set_option linter.unusedVariables false
set_option linter.unusedSimpArgs false

/-! ### path_fine: function 51 -/
def path_fine.f (a0_0 : Int) (a0_1 : Int) : Option (Bool) := (path_Right.f 16 a0_0 a0_1).bind fun t441 => (some t441)
set_option maxHeartbeats 8000000 in
set_option maxRecDepth 100000 in
theorem path_fine.calls (a0_0 : Int) (a0_1 : Int) (r : Bool) (w : World) (h : path_fine.f a0_0 a0_1 = some r) :
  Calls Try.prog 51 #[.agg #[.int .i64 a0_0, .int .i64 a0_1]] w fun e w' => e = .returned (.bool r) ∧ Below w.heap.size w w' := by
 have hu47 := Try.underlying47
 have HB := Aside0.mk (Below.refl w.heap.size w)
 have H : ((path_Right.f 16 a0_0 a0_1).bind fun t441 => (some t441)) = some r := h
 clear h
 replace H := Option.bind_eq_some_iff.mp H
 obtain ⟨t441, A20, H⟩ := H
 replace H : (some t441) = some r := H
 have A2 := Aside0.mk A20
 clear A20
 obtain rfl := Option.some.inj H
 go_enter Try.func51, Try.ntmps51
 go_wp2_with (first | ((with_reducible refine gate_dst (N := 1) rfl ?_); refine box_event ?hg (N := 1) ?hd (cs := #[.int .i64 a0_0, .int .i64 a0_1]) (t := 47) ?hr ?_; (case hd => rfl); (case hg => rfl); (case hr => first | (go_simp; done) | (go_simp; rfl)); intro gb440 hg w3 hbox hb; have n0_ := Aside0.mk (below_step (bh HB.out) hb); have n1_ := Aside0.mk (hbox); have n2_ := Aside0.mk ((by rw [hg]; exact (below_size (bh HB.out)) : w.heap.size ≤ gb440)); have n3_ := Aside0.mk ((by rw [hg]; exact (below_size (bh HB.out)) : w.heap.size ≤ gb440)); clear HB; have HB := n0_; have BK440 := n1_; have GW440 := n2_; have GE440 := n3_; clear n0_ n1_ n2_ n3_; clear hb hbox hg; have hcz4_0 : w3.cell? ⟨gb440, 0, none⟩ = some (.int .i64 a0_0) := (blk_cell BK440.out 0).trans rfl; have hcz4_1 : w3.cell? ⟨gb440, 1, none⟩ = some (.int .i64 a0_1) := (blk_cell BK440.out 1).trans rfl; have hfz4_0 := blk_frozen BK440.out 0; have hfz4_1 := blk_frozen BK440.out 1) | ((with_reducible refine gate_callee (f := 55) rfl ?_); refine goesL_ (some 4) rfl rfl Try.func55 (by kernel_rfl) rfl #[.int .i64 16, .agg #[.int .i64 a0_0, .int .i64 a0_1]] rfl (by (try simp only [List.map_toArray, List.map_cons, List.map_nil]); first | done | rfl | (simp only [List.length_drop, List.length_take]; rfl)) ?_; (with_reducible refine (path_Right.calls 16 a0_0 a0_1 t441 _ A2.out).mono ?_); rintro e w5 ⟨rfl, hb⟩; refine ⟨_, rfl, ?_⟩; have n0_ := Aside0.mk (blk_below (g := gb440) (o := .cells #[.int .i64 a0_0, .int .i64 a0_1] 47 (0, 0)) (bk BK440.out) hb); have n1_ := Aside0.mk (below_step (by repeat (first | (with_reducible first | exact HB.out | apply below_alloc | apply pw_below_drewN | apply below_drew1 | refine below_set ?_ GE440.out) | exact HB.out)) hb); clear BK440; clear HB; have BK440 := n0_; have HB := n1_; clear n0_ n1_; (try clear hb); (try clear hb2); (try clear hk); (try clear hi)))
 go_ret
 exact ⟨by first | rfl | (simp [errW_none, errW_some] <;> rfl) | (simp [*, errW_none, errW_some] <;> rfl), by repeat (first | (with_reducible first | exact HB.out | apply below_alloc | apply pw_below_drewN | apply below_drew1 | refine below_set ?_ GE440.out) | exact HB.out)⟩

end
section
open Go.RowKit Go.Proofs.YtnkfbkbllkdnoaaW.PrintWords Go.Proofs.YtnkfbkbllkdnoaaW.PrintLast Go.Proofs.YtnkfbkbllkdnoaaW.PrintMore
attribute [local go_sem] max2_int min2_int max_two min_two max_three min_three max_four min_four   -- for this text's walks alone
set_option linter.unusedVariables false
set_option linter.unusedSimpArgs false

/-! ### path_Child: function 29 -/
def path_Child.j0 : Nat → Int → Bool → Int → Int → Option (Int × Int × Int)
 | 0, _, _, _, _ => none
 | k + 1, x1, x6, x443000, x443001 => if x6 = true then (some (0, 0, 1)) else (if x443000 = 32 then (some (0, 0, 30)) else (some (wrap64 (x443000 + 1), Go.bits .or .i64 (wrap64 (x443001 * 2)) x1, 0)))
def path_Child.f (k : Nat) (a0_0 : Int) (a0_1 : Int) (a1 : Int) : Option (Int × Int × Int) := (path_fine.f a0_0 a0_1).bind fun t444 => (if t444 = true then (if a1 = 0 then (path_Child.j0 k a1 false a0_0 a0_1) else (path_Child.j0 k a1 (a1 != 1) a0_0 a0_1)) else (path_Child.j0 k a1 true a0_0 a0_1))
theorem path_Child.mono_l : ∀ k, (∀ y0 y1 y2 y3, LeO (path_Child.j0 k y0 y1 y2 y3) (path_Child.j0 (k + 1) y0 y1 y2 y3))
 | 0 => fun _ _ _ _ r h => by simp [path_Child.j0] at h
 | k + 1 => by
  have ih0 := path_Child.mono_l k
  ·intro y0 y1 y2 y3
   unfold path_Child.j0
   repeat' first
   | (with_reducible exact ih0 _ _ _ _)
   | (with_reducible exact LeO.refl _)
   | (with_reducible exact LeO.none _)
   | (with_reducible refine LeO.ite ?_ ?_)
   | (with_reducible refine LeO.bind ?_ (fun _ => ?_))
   | exact ih0 _ _ _ _
   | exact LeO.none _
   | refine LeO.ite ?_ ?_
   | refine LeO.bind ?_ (fun _ => ?_)
theorem path_Child.mono : ∀ a0 a1 a2 k, LeO (path_Child.f k a0 a1 a2) (path_Child.f (k + 1) a0 a1 a2) := by
 intro a0 a1 a2 k
 have ih0 := path_Child.mono_l k
 unfold path_Child.f
 repeat' first
   | (with_reducible exact ih0 _ _ _ _)
   | (with_reducible exact LeO.refl _)
   | (with_reducible exact LeO.none _)
   | (with_reducible refine LeO.ite ?_ ?_)
   | (with_reducible refine LeO.bind ?_ (fun _ => ?_))
   | exact ih0 _ _ _ _
   | exact LeO.none _
   | refine LeO.ite ?_ ?_
   | refine LeO.bind ?_ (fun _ => ?_)
set_option maxHeartbeats 8000000 in
set_option maxRecDepth 100000 in
theorem path_Child.calls (k : Nat) (a0_0 : Int) (a0_1 : Int) (a1 : Int) (r1 : Int) (r2 : Int) (r3 : Int) (w : World) (h : path_Child.f k a0_0 a0_1 a1 = some (r1, r2, r3)) :
  Calls Try.prog 29 #[.agg #[.int .i64 a0_0, .int .i64 a0_1], .int .i64 a1] w fun e w' => e = .returned (.tuple #[.agg #[.int .i64 r1, .int .i64 r2], .int .i64 r3]) ∧ Below w.heap.size w w' := by
 have hu47 := Try.underlying47
 have HB := Aside0.mk (Below.refl w.heap.size w)
 have H : ((path_fine.f a0_0 a0_1).bind fun t444 => (if t444 = true then (if a1 = 0 then (path_Child.j0 k a1 false a0_0 a0_1) else (path_Child.j0 k a1 (a1 != 1) a0_0 a0_1)) else (path_Child.j0 k a1 true a0_0 a0_1))) = some (r1, r2, r3) := h
 clear h
 have HC3 := Aside0.mk H
 clear H
 go_enter Try.func29, Try.ntmps29
 go_upto_region 1 with (first | ((with_reducible refine gate_dst (N := 2) rfl ?_); refine box_event ?hg (N := 2) ?hd (cs := #[.int .i64 a0_0, .int .i64 a0_1]) (t := 47) ?hr ?_; (case hd => rfl); (case hg => rfl); (case hr => first | (go_simp; done) | (go_simp; rfl)); intro gb442 hg w4 hbox hb; have n0_ := Aside0.mk (below_step (bh HB.out) hb); have n1_ := Aside0.mk (hbox); have n2_ := Aside0.mk ((by rw [hg]; exact (below_size (bh HB.out)) : w.heap.size ≤ gb442)); have n3_ := Aside0.mk ((by rw [hg]; exact (below_size (bh HB.out)) : w.heap.size ≤ gb442)); clear HB; have HB := n0_; have BK442 := n1_; have GW442 := n2_; have GE442 := n3_; clear n0_ n1_ n2_ n3_; clear hb hbox hg) | ((with_reducible refine gate_dst (N := 4) rfl ?_); refine box_event ?hg (N := 4) ?hd (cs := #[.int .i64 0, .int .i64 0]) (t := 47) ?hr ?_; (case hd => rfl); (case hg => rfl); (case hr => first | (go_simp; done) | (go_simp; rfl)); intro gb443 hg w5 hbox hb; have n0_ := Aside0.mk (blk_below (g := gb442) (o := .cells #[.int .i64 a0_0, .int .i64 a0_1] 47 (0, 0)) (bk BK442.out) hb); have n1_ := Aside0.mk (below_step (by repeat (first | (with_reducible first | exact HB.out | apply below_alloc | apply pw_below_drewN | apply below_drew1 | refine below_set ?_ GE442.out) | exact HB.out)) hb); have n2_ := Aside0.mk (hbox); have n3_ := Aside0.mk ((by rw [hg]; exact (below_size (by repeat (first | (with_reducible first | exact HB.out | apply below_alloc | apply pw_below_drewN | apply below_drew1 | refine below_set ?_ GE442.out) | exact HB.out))) : w.heap.size ≤ gb443)); have n4_ := Aside0.mk ((by rw [hg]; exact (below_size (by repeat (first | (with_reducible first | exact HB.out | apply below_alloc | apply pw_below_drewN | apply below_drew1 | refine below_set ?_ GE442.out) | exact HB.out))) : w.heap.size ≤ gb443)); have n5_ := Aside0.mk ((by rw [hg]; exact Nat.ne_of_lt (blk_lt (g := gb442) (o := .cells #[.int .i64 a0_0, .int .i64 a0_1] 47 (0, 0)) (bk BK442.out)) : gb442 ≠ gb443)); have n6_ := Aside0.mk ((by rw [hg]; exact Nat.ne_of_gt (blk_lt (g := gb442) (o := .cells #[.int .i64 a0_0, .int .i64 a0_1] 47 (0, 0)) (bk BK442.out)) : gb443 ≠ gb442)); clear BK442; clear HB; have BK442 := n0_; have HB := n1_; have BK443 := n2_; have GW443 := n3_; have GE443 := n4_; have NB442_443 := n5_; have NB443_442 := n6_; clear n0_ n1_ n2_ n3_ n4_ n5_ n6_; clear hb hbox hg))
 (try simp only [Act.put, List.setIfInBounds_toArray, List.set_cons_zero, List.set_cons_succ])
 go_cut [6] (fun v6 wc => ∃ (kq : Nat) (x6_2 : Bool), v6 = .bool x6_2 ∧ Aside0 (path_Child.j0 kq a1 x6_2 a0_0 a0_1 = some (r1, r2, r3)) ∧ Aside0 (kq ≤ k) ∧ Aside0 (wc.heap[gb442]? = some (.cells #[.int .i64 a0_0, .int .i64 a0_1] 47 (0, 0))) ∧ Aside0 (wc.heap[gb443]? = some (.cells #[.int .i64 0, .int .i64 0] 47 (0, 0))) ∧ Aside0 (Below w.heap.size w wc))
 case first =>
  have H := HC3.out
  clear HC3
  replace H := Option.bind_eq_some_iff.mp H
  obtain ⟨t444, A60, H⟩ := H
  replace H : (if t444 = true then (if a1 = 0 then (path_Child.j0 k a1 false a0_0 a0_1) else (path_Child.j0 k a1 (a1 != 1) a0_0 a0_1)) else (path_Child.j0 k a1 true a0_0 a0_1)) = some (r1, r2, r3) := H
  have A6 := Aside0.mk A60
  clear A60
  by_cases c7 : t444 = true
  ·subst c7
   have H1 : (if a1 = 0 then (path_Child.j0 k a1 false a0_0 a0_1) else (path_Child.j0 k a1 (a1 != 1) a0_0 a0_1)) = some (r1, r2, r3) := by rw [if_pos rfl] at H; exact H
   clear H
   have H := H1
   clear H1
   by_cases c8 : a1 = 0
   ·rw [if_pos c8] at H
    have c8b0 : (a1 == 0) = true := beq_iff_eq.mpr c8
    have c8b1 : (a1 != 0) = false := bne_eq_false_iff_eq.mpr c8
    clear c8
    (first | rw [c8b0] | (simp only [i64_w, i32_w]; rw [c8b0]) | skip)
    have H' := Aside0.mk H
    clear H
    have hnb9 := NB442_443.out
    have hnc9 := NB443_442.out
    have hcz10_0 : w5.cell? ⟨gb442, 0, none⟩ = some (.int .i64 a0_0) := (blk_cell BK442.out 0).trans rfl
    have hcz10_1 : w5.cell? ⟨gb442, 1, none⟩ = some (.int .i64 a0_1) := (blk_cell BK442.out 1).trans rfl
    have hfz10_0 := blk_frozen BK442.out 0
    have hfz10_1 := blk_frozen BK442.out 1
    go_wp2_with (first | ((with_reducible refine gate_callee (f := 51) rfl ?_); refine goesL_ (some 8) rfl rfl Try.func51 (by kernel_rfl) rfl #[.agg #[.int .i64 a0_0, .int .i64 a0_1]] rfl (by (try simp only [List.map_toArray, List.map_cons, List.map_nil]); first | done | rfl | (simp only [List.length_drop, List.length_take]; rfl)) ?_; (with_reducible refine (path_fine.calls a0_0 a0_1 true _ A6.out).mono ?_); rintro e w11 ⟨rfl, hb⟩; refine ⟨_, rfl, ?_⟩; have n0_ := Aside0.mk (blk_below (g := gb442) (o := .cells #[.int .i64 a0_0, .int .i64 a0_1] 47 (0, 0)) (bk BK442.out) hb); have n1_ := Aside0.mk (blk_below (g := gb443) (o := .cells #[.int .i64 0, .int .i64 0] 47 (0, 0)) (bk BK443.out) hb); have n2_ := Aside0.mk (below_step (by repeat (first | (with_reducible first | exact HB.out | apply below_alloc | apply pw_below_drewN | apply below_drew1 | refine below_set ?_ GE442.out | refine below_set ?_ GE443.out) | exact HB.out)) hb); clear BK442; clear BK443; clear HB; have BK442 := n0_; have BK443 := n1_; have HB := n2_; clear n0_ n1_ n2_; (try clear hb); (try clear hb2); (try clear hk); (try clear hi)))
    go_meet
    case rel => exact ⟨_, (false), (by first | rfl | (simp; done) | (simp [*]; done)), H', ⟨by first | omega | exact Nat.le_refl _⟩, ⟨by (with_reducible repeat (first | refine blk_drewN ?_ _ | refine blk_drew ?_ | refine blk_alloc ?_ _)); exact BK442.out⟩, ⟨by (with_reducible repeat (first | refine blk_drewN ?_ _ | refine blk_drew ?_ | refine blk_alloc ?_ _)); exact BK443.out⟩, ⟨by repeat (first | (with_reducible first | exact HB.out | apply below_alloc | apply pw_below_drewN | apply below_drew1 | refine below_set ?_ GE442.out | refine below_set ?_ GE443.out) | exact HB.out)⟩⟩
   ·rw [if_neg c8] at H
    have c8b0 : (a1 == 0) = false := beq_eq_false_iff_ne.mpr c8
    have c8b1 : (a1 != 0) = true := bne_iff_ne.mpr c8
    (first | rw [c8b0] | (simp only [i64_w, i32_w]; rw [c8b0]) | skip)
    have H' := Aside0.mk H
    clear H
    have hnb12 := NB442_443.out
    have hnc12 := NB443_442.out
    have hcz13_0 : w5.cell? ⟨gb442, 0, none⟩ = some (.int .i64 a0_0) := (blk_cell BK442.out 0).trans rfl
    have hcz13_1 : w5.cell? ⟨gb442, 1, none⟩ = some (.int .i64 a0_1) := (blk_cell BK442.out 1).trans rfl
    have hfz13_0 := blk_frozen BK442.out 0
    have hfz13_1 := blk_frozen BK442.out 1
    go_wp2_with (first | ((with_reducible refine gate_callee (f := 51) rfl ?_); refine goesL_ (some 8) rfl rfl Try.func51 (by kernel_rfl) rfl #[.agg #[.int .i64 a0_0, .int .i64 a0_1]] rfl (by (try simp only [List.map_toArray, List.map_cons, List.map_nil]); first | done | rfl | (simp only [List.length_drop, List.length_take]; rfl)) ?_; (with_reducible refine (path_fine.calls a0_0 a0_1 true _ A6.out).mono ?_); rintro e w14 ⟨rfl, hb⟩; refine ⟨_, rfl, ?_⟩; have n0_ := Aside0.mk (blk_below (g := gb442) (o := .cells #[.int .i64 a0_0, .int .i64 a0_1] 47 (0, 0)) (bk BK442.out) hb); have n1_ := Aside0.mk (blk_below (g := gb443) (o := .cells #[.int .i64 0, .int .i64 0] 47 (0, 0)) (bk BK443.out) hb); have n2_ := Aside0.mk (below_step (by repeat (first | (with_reducible first | exact HB.out | apply below_alloc | apply pw_below_drewN | apply below_drew1 | refine below_set ?_ GE442.out | refine below_set ?_ GE443.out) | exact HB.out)) hb); clear BK442; clear BK443; clear HB; have BK442 := n0_; have BK443 := n1_; have HB := n2_; clear n0_ n1_ n2_; (try clear hb); (try clear hb2); (try clear hk); (try clear hi)))
    go_meet
    case rel => exact ⟨_, ((a1 != 1)), (by first | rfl | (simp; done) | (simp [*]; done)), H', ⟨by first | omega | exact Nat.le_refl _⟩, ⟨by (with_reducible repeat (first | refine blk_drewN ?_ _ | refine blk_drew ?_ | refine blk_alloc ?_ _)); exact BK442.out⟩, ⟨by (with_reducible repeat (first | refine blk_drewN ?_ _ | refine blk_drew ?_ | refine blk_alloc ?_ _)); exact BK443.out⟩, ⟨by repeat (first | (with_reducible first | exact HB.out | apply below_alloc | apply pw_below_drewN | apply below_drew1 | refine below_set ?_ GE442.out | refine below_set ?_ GE443.out) | exact HB.out)⟩⟩
  ·replace c7 := Bool.eq_false_iff.mpr c7
   subst c7
   have H1 : (path_Child.j0 k a1 true a0_0 a0_1) = some (r1, r2, r3) := by rw [if_neg (show ¬ (false = true) by decide)] at H; exact H
   clear H
   have H := H1
   clear H1
   have H' := Aside0.mk H
   clear H
   have hnb15 := NB442_443.out
   have hnc15 := NB443_442.out
   have hcz16_0 : w5.cell? ⟨gb442, 0, none⟩ = some (.int .i64 a0_0) := (blk_cell BK442.out 0).trans rfl
   have hcz16_1 : w5.cell? ⟨gb442, 1, none⟩ = some (.int .i64 a0_1) := (blk_cell BK442.out 1).trans rfl
   have hfz16_0 := blk_frozen BK442.out 0
   have hfz16_1 := blk_frozen BK442.out 1
   go_wp2_with (first | ((with_reducible refine gate_callee (f := 51) rfl ?_); refine goesL_ (some 8) rfl rfl Try.func51 (by kernel_rfl) rfl #[.agg #[.int .i64 a0_0, .int .i64 a0_1]] rfl (by (try simp only [List.map_toArray, List.map_cons, List.map_nil]); first | done | rfl | (simp only [List.length_drop, List.length_take]; rfl)) ?_; (with_reducible refine (path_fine.calls a0_0 a0_1 false _ A6.out).mono ?_); rintro e w17 ⟨rfl, hb⟩; refine ⟨_, rfl, ?_⟩; have n0_ := Aside0.mk (blk_below (g := gb442) (o := .cells #[.int .i64 a0_0, .int .i64 a0_1] 47 (0, 0)) (bk BK442.out) hb); have n1_ := Aside0.mk (blk_below (g := gb443) (o := .cells #[.int .i64 0, .int .i64 0] 47 (0, 0)) (bk BK443.out) hb); have n2_ := Aside0.mk (below_step (by repeat (first | (with_reducible first | exact HB.out | apply below_alloc | apply pw_below_drewN | apply below_drew1 | refine below_set ?_ GE442.out | refine below_set ?_ GE443.out) | exact HB.out)) hb); clear BK442; clear BK443; clear HB; have BK442 := n0_; have BK443 := n1_; have HB := n2_; clear n0_ n1_ n2_; (try clear hb); (try clear hb2); (try clear hk); (try clear hi)))
   go_meet
   case rel => exact ⟨_, (true), (by first | rfl | (simp; done) | (simp [*]; done)), H', ⟨by first | omega | exact Nat.le_refl _⟩, ⟨by (with_reducible repeat (first | refine blk_drewN ?_ _ | refine blk_drew ?_ | refine blk_alloc ?_ _)); exact BK442.out⟩, ⟨by (with_reducible repeat (first | refine blk_drewN ?_ _ | refine blk_drew ?_ | refine blk_alloc ?_ _)); exact BK443.out⟩, ⟨by repeat (first | (with_reducible first | exact HB.out | apply below_alloc | apply pw_below_drewN | apply below_drew1 | refine below_set ?_ GE442.out | refine below_set ?_ GE443.out) | exact HB.out)⟩⟩
 case rest =>
  clear HC3
  try clear c1
  try clear c2
  try clear p2
  try clear c5
  try clear c7
  try clear c8
  try clear c8b0
  try clear c8b1
  try clear c9
  try clear c12
  try clear c15
  try clear hcz10_0
  try clear hcz10_1
  try clear hcz13_0
  try clear hcz13_1
  try clear hcz16_0
  try clear hcz16_1
  try clear hfz10_0
  try clear hfz10_1
  try clear hfz13_0
  try clear hfz13_1
  try clear hfz16_0
  try clear hfz16_1
  obtain ⟨kq, x6_2, rfl, HA, HJ2, BK442, BK443, HB⟩ := hcut
  cases kq with
  | zero => exact absurd HA.out (by simp [path_Child.j0])
  | succ kj2 =>
   have H := HA.out
   clear HA
   simp only [path_Child.j0] at H
   by_cases c18 : x6_2 = true
   ·subst c18
    have H1 : (some (0, 0, 1)) = some (r1, r2, r3) := by rw [if_pos rfl] at H; exact H
    clear H
    have H := H1
    clear H1
    simp only [Option.some.injEq, Prod.mk.injEq] at H
    obtain ⟨rfl, rfl, rfl⟩ := H
    have hnb19 := NB443_442.out
    have hnc19 := NB442_443.out
    have hcz20_0 : wc.cell? ⟨gb443, 0, none⟩ = some (.int .i64 0) := (blk_cell BK443.out 0).trans rfl
    have hcz20_1 : wc.cell? ⟨gb443, 1, none⟩ = some (.int .i64 0) := (blk_cell BK443.out 1).trans rfl
    have hfz20_0 := blk_frozen BK443.out 0
    have hfz20_1 := blk_frozen BK443.out 1
    go_wp2
    refine bodyPost_ret (results_ct rfl _ _ gb443 47 #[.int .i64 0, .int .i64 0] (0, 0) _ rfl (by (with_reducible repeat (first | refine blk_drewN ?_ _ | refine blk_drew ?_ | refine blk_alloc ?_ _)); refine blk_put (cs := #[.int .i64 0, .int .i64 0]) ?_ 1 _ rfl; (with_reducible repeat (first | refine blk_drewN ?_ _ | refine blk_drew ?_ | refine blk_alloc ?_ _)); refine blk_put (cs := #[.int .i64 0, .int .i64 0]) ?_ 0 _ rfl; (with_reducible repeat (first | refine blk_drewN ?_ _ | refine blk_drew ?_ | refine blk_alloc ?_ _)); exact BK443.out) Try.underlying47 rfl (by kernel_rfl)) rfl ?_
    exact ⟨by first | rfl | (simp [errW_none, errW_some] <;> rfl) | (simp [*, errW_none, errW_some] <;> rfl), by repeat (first | (with_reducible first | exact HB.out | apply below_alloc | apply pw_below_drewN | apply below_drew1 | refine below_set ?_ GE442.out | refine below_set ?_ GE443.out) | exact HB.out)⟩
   ·replace c18 := Bool.eq_false_iff.mpr c18
    subst c18
    have H1 : (if a0_0 = 32 then (some (0, 0, 30)) else (some (wrap64 (a0_0 + 1), Go.bits .or .i64 (wrap64 (a0_1 * 2)) a1, 0))) = some (r1, r2, r3) := by rw [if_neg (show ¬ (false = true) by decide)] at H; exact H
    clear H
    have H := H1
    clear H1
    by_cases c21 : a0_0 = 32
    ·rw [if_pos c21] at H
     have c21b0 : (a0_0 == 32) = true := beq_iff_eq.mpr c21
     have c21b1 : (a0_0 != 32) = false := bne_eq_false_iff_eq.mpr c21
     clear c21
     simp only [Option.some.injEq, Prod.mk.injEq] at H
     obtain ⟨rfl, rfl, rfl⟩ := H
     have hnb22 := NB442_443.out
     have hnc22 := NB443_442.out
     have hcz23_0 : wc.cell? ⟨gb442, 0, none⟩ = some (.int .i64 a0_0) := (blk_cell BK442.out 0).trans rfl
     have hcz23_1 : wc.cell? ⟨gb442, 1, none⟩ = some (.int .i64 a0_1) := (blk_cell BK442.out 1).trans rfl
     have hfz23_0 := blk_frozen BK442.out 0
     have hfz23_1 := blk_frozen BK442.out 1
     have hcz24_0 : wc.cell? ⟨gb443, 0, none⟩ = some (.int .i64 0) := (blk_cell BK443.out 0).trans rfl
     have hcz24_1 : wc.cell? ⟨gb443, 1, none⟩ = some (.int .i64 0) := (blk_cell BK443.out 1).trans rfl
     have hfz24_0 := blk_frozen BK443.out 0
     have hfz24_1 := blk_frozen BK443.out 1
     go_wp2
     refine bodyPost_ret (results_ct rfl _ _ gb443 47 #[.int .i64 0, .int .i64 0] (0, 0) _ rfl (by (with_reducible repeat (first | refine blk_drewN ?_ _ | refine blk_drew ?_ | refine blk_alloc ?_ _)); refine blk_put (cs := #[.int .i64 0, .int .i64 0]) ?_ 1 _ rfl; (with_reducible repeat (first | refine blk_drewN ?_ _ | refine blk_drew ?_ | refine blk_alloc ?_ _)); refine blk_put (cs := #[.int .i64 0, .int .i64 0]) ?_ 0 _ rfl; (with_reducible repeat (first | refine blk_drewN ?_ _ | refine blk_drew ?_ | refine blk_alloc ?_ _)); exact BK443.out) Try.underlying47 rfl (by kernel_rfl)) rfl ?_
     exact ⟨by first | rfl | (simp [errW_none, errW_some] <;> rfl) | (simp [*, errW_none, errW_some] <;> rfl), by repeat (first | (with_reducible first | exact HB.out | apply below_alloc | apply pw_below_drewN | apply below_drew1 | refine below_set ?_ GE442.out | refine below_set ?_ GE443.out) | exact HB.out)⟩
    ·rw [if_neg c21] at H
     have c21b0 : (a0_0 == 32) = false := beq_eq_false_iff_ne.mpr c21
     have c21b1 : (a0_0 != 32) = true := bne_iff_ne.mpr c21
     simp only [Option.some.injEq, Prod.mk.injEq] at H
     obtain ⟨rfl, rfl, rfl⟩ := H
     have hnb25 := NB442_443.out
     have hnc25 := NB443_442.out
     have hcz26_0 : wc.cell? ⟨gb442, 0, none⟩ = some (.int .i64 a0_0) := (blk_cell BK442.out 0).trans rfl
     have hcz26_1 : wc.cell? ⟨gb442, 1, none⟩ = some (.int .i64 a0_1) := (blk_cell BK442.out 1).trans rfl
     have hfz26_0 := blk_frozen BK442.out 0
     have hfz26_1 := blk_frozen BK442.out 1
     have hcz27_0 : wc.cell? ⟨gb443, 0, none⟩ = some (.int .i64 0) := (blk_cell BK443.out 0).trans rfl
     have hcz27_1 : wc.cell? ⟨gb443, 1, none⟩ = some (.int .i64 0) := (blk_cell BK443.out 1).trans rfl
     have hfz27_0 := blk_frozen BK443.out 0
     have hfz27_1 := blk_frozen BK443.out 1
     go_wp2
     refine bodyPost_ret (results_ct rfl _ _ gb443 47 #[.int .i64 (wrap64 (a0_0 + 1)), .int .i64 (Go.bits .or .i64 (wrap64 (a0_1 * 2)) a1)] (0, 0) _ rfl (by (with_reducible repeat (first | refine blk_drewN ?_ _ | refine blk_drew ?_ | refine blk_alloc ?_ _)); refine blk_put (cs := #[.int .i64 (wrap64 (a0_0 + 1)), .int .i64 0]) ?_ 1 _ rfl; (with_reducible repeat (first | refine blk_drewN ?_ _ | refine blk_drew ?_ | refine blk_alloc ?_ _)); refine blk_put (cs := #[.int .i64 0, .int .i64 0]) ?_ 0 _ rfl; (with_reducible repeat (first | refine blk_drewN ?_ _ | refine blk_drew ?_ | refine blk_alloc ?_ _)); exact BK443.out) Try.underlying47 rfl (by kernel_rfl)) rfl ?_
     exact ⟨by first | rfl | (simp [errW_none, errW_some] <;> rfl) | (simp [*, errW_none, errW_some] <;> rfl), by repeat (first | (with_reducible first | exact HB.out | apply below_alloc | apply pw_below_drewN | apply below_drew1 | refine below_set ?_ GE442.out | refine below_set ?_ GE443.out) | exact HB.out)⟩

end
section
open Go.RowKit Go.Proofs.YtnkfbkbllkdnoaaW.PrintWords Go.Proofs.YtnkfbkbllkdnoaaW.PrintLast Go.Proofs.YtnkfbkbllkdnoaaW.PrintMore
attribute [local go_sem] max2_int min2_int max_two min_two max_three min_three max_four min_four   -- for this text's walks alone
set_option linter.unusedVariables false
set_option linter.unusedSimpArgs false

/-! ### glebelaw04_WindowHalves: function 6 -/
def glebelaw04_WindowHalves.j0 : Nat → Int → Int → Int → Bool → Int → Int → Int → Int → Int → Int → Int → Int → Int → Int → Int → Option (Bool)
 | 0, _, _, _, _, _, _, _, _, _, _, _, _, _, _, _ => none
 | k + 1, x9, x11, x13, x14, x447000, x447001, x448000, x453000, x453001, x453002, x453003, x464000, x464001, x468000, x468001 => (glebelaw04_num.f x11).bind fun t470 => ((glebelaw04_num.f x13).bind fun t471 => (if (wrap64 (t470 + t471)) = 0 then ((window_Cut.f k x448000 x453000 x453001 x453002 x453003 x464000 x464001).bind fun t472 => ((glebelaw04_sum.f k t472).bind fun t475 => ((window_Cut.f k x448000 x453000 x453001 x453002 x453003 x468000 x468001).bind fun t476 => ((glebelaw04_sum.f k t476).bind fun t479 => (if (wrap64 (t475 + t479)) = x9 then ((window_Covers.f k x448000 x453000 x453001 x453002 x453003 x447000 x447001).bind fun t480 => (if (t480 == x14) = true then ((glebelaw04_knows.f k).bind fun t481 => (some t481)) else (none))) else (none)))))) else (none)))
def glebelaw04_WindowHalves.f (k : Nat) (a0 : Int) (a1_0 : Int) (a1_1 : Int) (a1_2 : Int) (a1_3 : Int) (a2_0 : Int) (a2_1 : Int) : Option (Bool) := (glebelaw04_Some.f (wrap64 (1 + (Int.tmod (wrap64 ((Int.tmod a0 16) + 16)) 16))) a1_0 a1_1 a1_2 a1_3).bind fun bt448 => ((glebelaw03_Some.f (wrap64 (1 + (Int.tmod (wrap64 ((Int.tmod a0 16) + 16)) 16))) a2_0 a2_1).bind fun bt453 => ((window_Cut.f k (wrap64 (1 + (Int.tmod (wrap64 ((Int.tmod a0 16) + 16)) 16))) bt448.1 bt448.2.1 bt448.2.2.1 bt448.2.2.2 bt453.1 bt453.2).bind fun t455 => ((glebelaw04_sum.f k t455).bind fun t458 => (if bt453.1 = (wrap64 (2 * (wrap64 (1 + (Int.tmod (wrap64 ((Int.tmod a0 16) + 16)) 16))))) then (if t458 ≤ 1 then ((glebelaw04_knows.f k).bind fun t459 => (some t459)) else (none)) else ((path_Child.f k bt453.1 bt453.2 0).bind fun bt460 => ((path_Child.f k bt453.1 bt453.2 1).bind fun bt464 => ((window_Covers.f k (wrap64 (1 + (Int.tmod (wrap64 ((Int.tmod a0 16) + 16)) 16))) bt448.1 bt448.2.1 bt448.2.2.1 bt448.2.2.2 bt460.1 bt460.2.1).bind fun t468 => (if t468 = true then ((window_Covers.f k (wrap64 (1 + (Int.tmod (wrap64 ((Int.tmod a0 16) + 16)) 16))) bt448.1 bt448.2.1 bt448.2.2.1 bt448.2.2.2 bt464.1 bt464.2.1).bind fun t469 => (glebelaw04_WindowHalves.j0 k t458 bt460.2.2 bt464.2.2 t469 bt453.1 bt453.2 (wrap64 (1 + (Int.tmod (wrap64 ((Int.tmod a0 16) + 16)) 16))) bt448.1 bt448.2.1 bt448.2.2.1 bt448.2.2.2 bt460.1 bt460.2.1 bt464.1 bt464.2.1)) else (glebelaw04_WindowHalves.j0 k t458 bt460.2.2 bt464.2.2 false bt453.1 bt453.2 (wrap64 (1 + (Int.tmod (wrap64 ((Int.tmod a0 16) + 16)) 16))) bt448.1 bt448.2.1 bt448.2.2.1 bt448.2.2.2 bt460.1 bt460.2.1 bt464.1 bt464.2.1)))))))))
theorem glebelaw04_WindowHalves.mono_l : ∀ k, (∀ y0 y1 y2 y3 y4 y5 y6 y7 y8 y9 y10 y11 y12 y13 y14, LeO (glebelaw04_WindowHalves.j0 k y0 y1 y2 y3 y4 y5 y6 y7 y8 y9 y10 y11 y12 y13 y14) (glebelaw04_WindowHalves.j0 (k + 1) y0 y1 y2 y3 y4 y5 y6 y7 y8 y9 y10 y11 y12 y13 y14))
 | 0 => fun _ _ _ _ _ _ _ _ _ _ _ _ _ _ _ r h => by simp [glebelaw04_WindowHalves.j0] at h
 | k + 1 => by
  have ih0 := glebelaw04_WindowHalves.mono_l k
  ·intro y0 y1 y2 y3 y4 y5 y6 y7 y8 y9 y10 y11 y12 y13 y14
   unfold glebelaw04_WindowHalves.j0
   repeat' first
   | (with_reducible exact ih0 _ _ _ _ _ _ _ _ _ _ _ _ _ _ _)
   | (with_reducible exact glebelaw04_knows.mono _)
   | (with_reducible exact glebelaw04_sum.mono _ _)
   | (with_reducible exact path_Child.mono _ _ _ _)
   | (with_reducible exact window_Covers.mono _ _ _ _ _ _ _ _)
   | (with_reducible exact window_Cut.mono _ _ _ _ _ _ _ _)
   | (with_reducible exact LeO.refl _)
   | (with_reducible exact LeO.none _)
   | (with_reducible refine LeO.ite ?_ ?_)
   | (with_reducible refine LeO.bind ?_ (fun _ => ?_))
   | exact ih0 _ _ _ _ _ _ _ _ _ _ _ _ _ _ _
   | exact glebelaw04_knows.mono _
   | exact glebelaw04_sum.mono _ _
   | exact path_Child.mono _ _ _ _
   | exact window_Covers.mono _ _ _ _ _ _ _ _
   | exact window_Cut.mono _ _ _ _ _ _ _ _
   | exact LeO.none _
   | refine LeO.ite ?_ ?_
   | refine LeO.bind ?_ (fun _ => ?_)
theorem glebelaw04_WindowHalves.mono : ∀ a0 a1 a2 a3 a4 a5 a6 k, LeO (glebelaw04_WindowHalves.f k a0 a1 a2 a3 a4 a5 a6) (glebelaw04_WindowHalves.f (k + 1) a0 a1 a2 a3 a4 a5 a6) := by
 intro a0 a1 a2 a3 a4 a5 a6 k
 have ih0 := glebelaw04_WindowHalves.mono_l k
 unfold glebelaw04_WindowHalves.f
 repeat' first
   | (with_reducible exact ih0 _ _ _ _ _ _ _ _ _ _ _ _ _ _ _)
   | (with_reducible exact glebelaw04_knows.mono _)
   | (with_reducible exact glebelaw04_sum.mono _ _)
   | (with_reducible exact path_Child.mono _ _ _ _)
   | (with_reducible exact window_Covers.mono _ _ _ _ _ _ _ _)
   | (with_reducible exact window_Cut.mono _ _ _ _ _ _ _ _)
   | (with_reducible exact LeO.refl _)
   | (with_reducible exact LeO.none _)
   | (with_reducible refine LeO.ite ?_ ?_)
   | (with_reducible refine LeO.bind ?_ (fun _ => ?_))
   | exact ih0 _ _ _ _ _ _ _ _ _ _ _ _ _ _ _
   | exact glebelaw04_knows.mono _
   | exact glebelaw04_sum.mono _ _
   | exact path_Child.mono _ _ _ _
   | exact window_Covers.mono _ _ _ _ _ _ _ _
   | exact window_Cut.mono _ _ _ _ _ _ _ _
   | exact LeO.none _
   | refine LeO.ite ?_ ?_
   | refine LeO.bind ?_ (fun _ => ?_)
def glebelaw04_WindowHalves.T11 : Bool × List (List Nat × List Nat) := (true, [([], []), ([0], [0]), ([], []), ([2, 1], [2]), ([1, 3], [1, 3]), ([4], [4]), ([5, 3], [5]), ([6], [6]), ([6], [6]), ([6], [6]), ([7, 8, 9, 6, 6], [6, 7, 8, 9]), ([10, 10, 6], [6, 10]), ([6], [6]), ([6], [6]), ([6], [6]), ([12, 13, 14, 11, 6], [6, 12, 13, 14]), ([15, 15, 6], [6, 15]), ([11, 16, 6], [6, 11, 16]), ([6], [6]), ([17, 18, 6], [6, 17, 18]), ([6, 19], [6, 19]), ([20, 16], [20]), ([21], [21]), ([21], [21]), ([21], [21]), ([22, 23, 24, 21, 21], [21, 22, 23, 24]), ([21], [21]), ([25, 26, 21], [21, 25, 26]), ([21, 27], [21, 27]), ([28, 25], [28]), ([29, 29], [29]), ([29, 30], [29, 30]), ([31, 30, 0, 1, 2, 3, 4, 5, 6, 7, 8, 9, 10, 11, 12, 13, 14, 15, 16, 17, 18, 19, 20, 21, 22, 23, 24, 25, 26, 27, 28, 29, 30, 31], [31])])
def glebelaw04_WindowHalves.B11 : List Nat := [0, 1, 0, 7, 15, 31, 63, 127, 127, 127, 1023, 2047, 127, 127, 127, 32767, 65535, 131071, 127, 524287, 1048575, 2097151, 4194303, 4194303, 4194303, 33554431, 4194303, 134217727, 268435455, 536870911, 1073741823, 2147483647, 4294967295]
theorem glebelaw04_WindowHalves.tab11 : rtab .any (opsOf Try.f6 11) = glebelaw04_WindowHalves.T11 := by kernel_rfl
theorem glebelaw04_WindowHalves.bits11 : waitsOk glebelaw04_WindowHalves.T11.2 glebelaw04_WindowHalves.B11 = true := by kernel_rfl
set_option maxHeartbeats 8000000 in
set_option maxRecDepth 100000 in
theorem glebelaw04_WindowHalves.calls (k : Nat) (a0 : Int) (a1_0 : Int) (a1_1 : Int) (a1_2 : Int) (a1_3 : Int) (a2_0 : Int) (a2_1 : Int) (r : Bool) (w : World) (h : glebelaw04_WindowHalves.f k a0 a1_0 a1_1 a1_2 a1_3 a2_0 a2_1 = some r) :
  Calls Try.prog 6 #[.int .i64 a0, .agg #[.int .i64 a1_0, .int .i64 a1_1, .int .i64 a1_2, .int .i64 a1_3], .agg #[.int .i64 a2_0, .int .i64 a2_1]] w fun e w' => e = .returned (.bool r) ∧ Below w.heap.size w w' := by
 have hu23 := Try.underlying23
 have hu47 := Try.underlying47
 have hu27 := Try.underlying27
 have hu29 := Try.underlying29
 have HB := Aside0.mk (Below.refl w.heap.size w)
 have H : ((glebelaw04_Some.f (wrap64 (1 + (Int.tmod (wrap64 ((Int.tmod a0 16) + 16)) 16))) a1_0 a1_1 a1_2 a1_3).bind fun bt448 => ((glebelaw03_Some.f (wrap64 (1 + (Int.tmod (wrap64 ((Int.tmod a0 16) + 16)) 16))) a2_0 a2_1).bind fun bt453 => ((window_Cut.f k (wrap64 (1 + (Int.tmod (wrap64 ((Int.tmod a0 16) + 16)) 16))) bt448.1 bt448.2.1 bt448.2.2.1 bt448.2.2.2 bt453.1 bt453.2).bind fun t455 => ((glebelaw04_sum.f k t455).bind fun t458 => (if bt453.1 = (wrap64 (2 * (wrap64 (1 + (Int.tmod (wrap64 ((Int.tmod a0 16) + 16)) 16))))) then (if t458 ≤ 1 then ((glebelaw04_knows.f k).bind fun t459 => (some t459)) else (none)) else ((path_Child.f k bt453.1 bt453.2 0).bind fun bt460 => ((path_Child.f k bt453.1 bt453.2 1).bind fun bt464 => ((window_Covers.f k (wrap64 (1 + (Int.tmod (wrap64 ((Int.tmod a0 16) + 16)) 16))) bt448.1 bt448.2.1 bt448.2.2.1 bt448.2.2.2 bt460.1 bt460.2.1).bind fun t468 => (if t468 = true then ((window_Covers.f k (wrap64 (1 + (Int.tmod (wrap64 ((Int.tmod a0 16) + 16)) 16))) bt448.1 bt448.2.1 bt448.2.2.1 bt448.2.2.2 bt464.1 bt464.2.1).bind fun t469 => (glebelaw04_WindowHalves.j0 k t458 bt460.2.2 bt464.2.2 t469 bt453.1 bt453.2 (wrap64 (1 + (Int.tmod (wrap64 ((Int.tmod a0 16) + 16)) 16))) bt448.1 bt448.2.1 bt448.2.2.1 bt448.2.2.2 bt460.1 bt460.2.1 bt464.1 bt464.2.1)) else (glebelaw04_WindowHalves.j0 k t458 bt460.2.2 bt464.2.2 false bt453.1 bt453.2 (wrap64 (1 + (Int.tmod (wrap64 ((Int.tmod a0 16) + 16)) 16))) bt448.1 bt448.2.1 bt448.2.2.1 bt448.2.2.2 bt460.1 bt460.2.1 bt464.1 bt464.2.1)))))))))) = some r := h
 clear h
 replace H := Option.bind_eq_some_iff.mp H
 obtain ⟨⟨t448, t449, t450, t451⟩, A40, H⟩ := H
 replace H : ((glebelaw03_Some.f (wrap64 (1 + (Int.tmod (wrap64 ((Int.tmod a0 16) + 16)) 16))) a2_0 a2_1).bind fun bt453 => ((window_Cut.f k (wrap64 (1 + (Int.tmod (wrap64 ((Int.tmod a0 16) + 16)) 16))) t448 t449 t450 t451 bt453.1 bt453.2).bind fun t455 => ((glebelaw04_sum.f k t455).bind fun t458 => (if bt453.1 = (wrap64 (2 * (wrap64 (1 + (Int.tmod (wrap64 ((Int.tmod a0 16) + 16)) 16))))) then (if t458 ≤ 1 then ((glebelaw04_knows.f k).bind fun t459 => (some t459)) else (none)) else ((path_Child.f k bt453.1 bt453.2 0).bind fun bt460 => ((path_Child.f k bt453.1 bt453.2 1).bind fun bt464 => ((window_Covers.f k (wrap64 (1 + (Int.tmod (wrap64 ((Int.tmod a0 16) + 16)) 16))) t448 t449 t450 t451 bt460.1 bt460.2.1).bind fun t468 => (if t468 = true then ((window_Covers.f k (wrap64 (1 + (Int.tmod (wrap64 ((Int.tmod a0 16) + 16)) 16))) t448 t449 t450 t451 bt464.1 bt464.2.1).bind fun t469 => (glebelaw04_WindowHalves.j0 k t458 bt460.2.2 bt464.2.2 t469 bt453.1 bt453.2 (wrap64 (1 + (Int.tmod (wrap64 ((Int.tmod a0 16) + 16)) 16))) t448 t449 t450 t451 bt460.1 bt460.2.1 bt464.1 bt464.2.1)) else (glebelaw04_WindowHalves.j0 k t458 bt460.2.2 bt464.2.2 false bt453.1 bt453.2 (wrap64 (1 + (Int.tmod (wrap64 ((Int.tmod a0 16) + 16)) 16))) t448 t449 t450 t451 bt460.1 bt460.2.1 bt464.1 bt464.2.1))))))))) = some r := H
 have A4 := Aside0.mk A40
 clear A40
 replace H := Option.bind_eq_some_iff.mp H
 obtain ⟨⟨t453, t454⟩, A50, H⟩ := H
 replace H : ((window_Cut.f k (wrap64 (1 + (Int.tmod (wrap64 ((Int.tmod a0 16) + 16)) 16))) t448 t449 t450 t451 t453 t454).bind fun t455 => ((glebelaw04_sum.f k t455).bind fun t458 => (if t453 = (wrap64 (2 * (wrap64 (1 + (Int.tmod (wrap64 ((Int.tmod a0 16) + 16)) 16))))) then (if t458 ≤ 1 then ((glebelaw04_knows.f k).bind fun t459 => (some t459)) else (none)) else ((path_Child.f k t453 t454 0).bind fun bt460 => ((path_Child.f k t453 t454 1).bind fun bt464 => ((window_Covers.f k (wrap64 (1 + (Int.tmod (wrap64 ((Int.tmod a0 16) + 16)) 16))) t448 t449 t450 t451 bt460.1 bt460.2.1).bind fun t468 => (if t468 = true then ((window_Covers.f k (wrap64 (1 + (Int.tmod (wrap64 ((Int.tmod a0 16) + 16)) 16))) t448 t449 t450 t451 bt464.1 bt464.2.1).bind fun t469 => (glebelaw04_WindowHalves.j0 k t458 bt460.2.2 bt464.2.2 t469 t453 t454 (wrap64 (1 + (Int.tmod (wrap64 ((Int.tmod a0 16) + 16)) 16))) t448 t449 t450 t451 bt460.1 bt460.2.1 bt464.1 bt464.2.1)) else (glebelaw04_WindowHalves.j0 k t458 bt460.2.2 bt464.2.2 false t453 t454 (wrap64 (1 + (Int.tmod (wrap64 ((Int.tmod a0 16) + 16)) 16))) t448 t449 t450 t451 bt460.1 bt460.2.1 bt464.1 bt464.2.1)))))))) = some r := H
 have A5 := Aside0.mk A50
 clear A50
 replace H := Option.bind_eq_some_iff.mp H
 obtain ⟨t455, A60, H⟩ := H
 replace H : ((glebelaw04_sum.f k t455).bind fun t458 => (if t453 = (wrap64 (2 * (wrap64 (1 + (Int.tmod (wrap64 ((Int.tmod a0 16) + 16)) 16))))) then (if t458 ≤ 1 then ((glebelaw04_knows.f k).bind fun t459 => (some t459)) else (none)) else ((path_Child.f k t453 t454 0).bind fun bt460 => ((path_Child.f k t453 t454 1).bind fun bt464 => ((window_Covers.f k (wrap64 (1 + (Int.tmod (wrap64 ((Int.tmod a0 16) + 16)) 16))) t448 t449 t450 t451 bt460.1 bt460.2.1).bind fun t468 => (if t468 = true then ((window_Covers.f k (wrap64 (1 + (Int.tmod (wrap64 ((Int.tmod a0 16) + 16)) 16))) t448 t449 t450 t451 bt464.1 bt464.2.1).bind fun t469 => (glebelaw04_WindowHalves.j0 k t458 bt460.2.2 bt464.2.2 t469 t453 t454 (wrap64 (1 + (Int.tmod (wrap64 ((Int.tmod a0 16) + 16)) 16))) t448 t449 t450 t451 bt460.1 bt460.2.1 bt464.1 bt464.2.1)) else (glebelaw04_WindowHalves.j0 k t458 bt460.2.2 bt464.2.2 false t453 t454 (wrap64 (1 + (Int.tmod (wrap64 ((Int.tmod a0 16) + 16)) 16))) t448 t449 t450 t451 bt460.1 bt460.2.1 bt464.1 bt464.2.1))))))) = some r := H
 have A6 := Aside0.mk A60
 clear A60
 replace H := Option.bind_eq_some_iff.mp H
 obtain ⟨t458, A70, H⟩ := H
 replace H : (if t453 = (wrap64 (2 * (wrap64 (1 + (Int.tmod (wrap64 ((Int.tmod a0 16) + 16)) 16))))) then (if t458 ≤ 1 then ((glebelaw04_knows.f k).bind fun t459 => (some t459)) else (none)) else ((path_Child.f k t453 t454 0).bind fun bt460 => ((path_Child.f k t453 t454 1).bind fun bt464 => ((window_Covers.f k (wrap64 (1 + (Int.tmod (wrap64 ((Int.tmod a0 16) + 16)) 16))) t448 t449 t450 t451 bt460.1 bt460.2.1).bind fun t468 => (if t468 = true then ((window_Covers.f k (wrap64 (1 + (Int.tmod (wrap64 ((Int.tmod a0 16) + 16)) 16))) t448 t449 t450 t451 bt464.1 bt464.2.1).bind fun t469 => (glebelaw04_WindowHalves.j0 k t458 bt460.2.2 bt464.2.2 t469 t453 t454 (wrap64 (1 + (Int.tmod (wrap64 ((Int.tmod a0 16) + 16)) 16))) t448 t449 t450 t451 bt460.1 bt460.2.1 bt464.1 bt464.2.1)) else (glebelaw04_WindowHalves.j0 k t458 bt460.2.2 bt464.2.2 false t453 t454 (wrap64 (1 + (Int.tmod (wrap64 ((Int.tmod a0 16) + 16)) 16))) t448 t449 t450 t451 bt460.1 bt460.2.1 bt464.1 bt464.2.1)))))) = some r := H
 have A7 := Aside0.mk A70
 clear A70
 by_cases c8 : t453 = (wrap64 (2 * (wrap64 (1 + (Int.tmod (wrap64 ((Int.tmod a0 16) + 16)) 16)))))
 ·rw [if_pos c8] at H
  have c8b0 : (t453 == (wrap64 (2 * (wrap64 (1 + (Int.tmod (wrap64 ((Int.tmod a0 16) + 16)) 16)))))) = true := beq_iff_eq.mpr c8
  have c8b1 : (t453 != (wrap64 (2 * (wrap64 (1 + (Int.tmod (wrap64 ((Int.tmod a0 16) + 16)) 16)))))) = false := bne_eq_false_iff_eq.mpr c8
  clear c8
  by_cases c9 : t458 ≤ 1
  ·rw [if_pos c9] at H
   have c9b0 : decide (t458 ≤ 1) = true := decide_eq_true c9
   clear c9
   replace H := Option.bind_eq_some_iff.mp H
   obtain ⟨t459, A100, H⟩ := H
   replace H : (some t459) = some r := H
   have A10 := Aside0.mk A100
   clear A100
   obtain rfl := Option.some.inj H
   go_enter Try.func6, Try.ntmps6
   go_wp2_with (first | ((with_reducible refine gate_dst (N := 4) rfl ?_); refine box_event ?hg (N := 4) ?hd (cs := #[.int .i64 a1_0, .int .i64 a1_1, .int .i64 a1_2, .int .i64 a1_3]) (t := 23) ?hr ?_; (case hd => rfl); (case hg => rfl); (case hr => first | (go_simp; done) | (go_simp; rfl)); intro gb445 hg w11 hbox hb; have n0_ := Aside0.mk (below_step (bh HB.out) hb); have n1_ := Aside0.mk (hbox); have n2_ := Aside0.mk ((by rw [hg]; exact (below_size (bh HB.out)) : w.heap.size ≤ gb445)); have n3_ := Aside0.mk ((by rw [hg]; exact (below_size (bh HB.out)) : w.heap.size ≤ gb445)); clear HB; have HB := n0_; have BK445 := n1_; have GW445 := n2_; have GE445 := n3_; clear n0_ n1_ n2_ n3_; clear hb hbox hg) | ((with_reducible refine gate_dst (N := 5) rfl ?_); refine box_event ?hg (N := 5) ?hd (cs := #[.int .i64 a2_0, .int .i64 a2_1]) (t := 47) ?hr ?_; (case hd => rfl); (case hg => rfl); (case hr => first | (go_simp; done) | (go_simp; rfl)); intro gb446 hg w12 hbox hb; have n0_ := Aside0.mk (blk_below (g := gb445) (o := .cells #[.int .i64 a1_0, .int .i64 a1_1, .int .i64 a1_2, .int .i64 a1_3] 23 (0, 0)) (bk BK445.out) hb); have n1_ := Aside0.mk (below_step (by repeat (first | (with_reducible first | exact HB.out | apply below_alloc | apply pw_below_drewN | apply below_drew1 | refine below_set ?_ GE445.out) | exact HB.out)) hb); have n2_ := Aside0.mk (hbox); have n3_ := Aside0.mk ((by rw [hg]; exact (below_size (by repeat (first | (with_reducible first | exact HB.out | apply below_alloc | apply pw_below_drewN | apply below_drew1 | refine below_set ?_ GE445.out) | exact HB.out))) : w.heap.size ≤ gb446)); have n4_ := Aside0.mk ((by rw [hg]; exact (below_size (by repeat (first | (with_reducible first | exact HB.out | apply below_alloc | apply pw_below_drewN | apply below_drew1 | refine below_set ?_ GE445.out) | exact HB.out))) : w.heap.size ≤ gb446)); have n5_ := Aside0.mk ((by rw [hg]; exact Nat.ne_of_lt (blk_lt (g := gb445) (o := .cells #[.int .i64 a1_0, .int .i64 a1_1, .int .i64 a1_2, .int .i64 a1_3] 23 (0, 0)) (bk BK445.out)) : gb445 ≠ gb446)); have n6_ := Aside0.mk ((by rw [hg]; exact Nat.ne_of_gt (blk_lt (g := gb445) (o := .cells #[.int .i64 a1_0, .int .i64 a1_1, .int .i64 a1_2, .int .i64 a1_3] 23 (0, 0)) (bk BK445.out)) : gb446 ≠ gb445)); clear BK445; clear HB; have BK445 := n0_; have HB := n1_; have BK446 := n2_; have GW446 := n3_; have GE446 := n4_; have NB445_446 := n5_; have NB446_445 := n6_; clear n0_ n1_ n2_ n3_ n4_ n5_ n6_; clear hb hbox hg) | ((with_reducible refine gate_dst (N := 7) rfl ?_); refine box_event ?hg (N := 7) ?hd (cs := #[.int .i64 0]) (t := 27) ?hr ?_; (case hd => rfl); (case hg => rfl); (case hr => first | (go_simp; done) | (go_simp; rfl)); intro gb447 hg w13 hbox hb; have n0_ := Aside0.mk (blk_below (g := gb445) (o := .cells #[.int .i64 a1_0, .int .i64 a1_1, .int .i64 a1_2, .int .i64 a1_3] 23 (0, 0)) (bk BK445.out) hb); have n1_ := Aside0.mk (blk_below (g := gb446) (o := .cells #[.int .i64 a2_0, .int .i64 a2_1] 47 (0, 0)) (bk BK446.out) hb); have n2_ := Aside0.mk (below_step (by repeat (first | (with_reducible first | exact HB.out | apply below_alloc | apply pw_below_drewN | apply below_drew1 | refine below_set ?_ GE445.out | refine below_set ?_ GE446.out) | exact HB.out)) hb); have n3_ := Aside0.mk (hbox); have n4_ := Aside0.mk ((by rw [hg]; exact (below_size (by repeat (first | (with_reducible first | exact HB.out | apply below_alloc | apply pw_below_drewN | apply below_drew1 | refine below_set ?_ GE445.out | refine below_set ?_ GE446.out) | exact HB.out))) : w.heap.size ≤ gb447)); have n5_ := Aside0.mk ((by rw [hg]; exact (below_size (by repeat (first | (with_reducible first | exact HB.out | apply below_alloc | apply pw_below_drewN | apply below_drew1 | refine below_set ?_ GE445.out | refine below_set ?_ GE446.out) | exact HB.out))) : w.heap.size ≤ gb447)); have n6_ := Aside0.mk ((by rw [hg]; exact Nat.ne_of_lt (blk_lt (g := gb445) (o := .cells #[.int .i64 a1_0, .int .i64 a1_1, .int .i64 a1_2, .int .i64 a1_3] 23 (0, 0)) (bk BK445.out)) : gb445 ≠ gb447)); have n7_ := Aside0.mk ((by rw [hg]; exact Nat.ne_of_gt (blk_lt (g := gb445) (o := .cells #[.int .i64 a1_0, .int .i64 a1_1, .int .i64 a1_2, .int .i64 a1_3] 23 (0, 0)) (bk BK445.out)) : gb447 ≠ gb445)); have n8_ := Aside0.mk ((by rw [hg]; exact Nat.ne_of_lt (blk_lt (g := gb446) (o := .cells #[.int .i64 a2_0, .int .i64 a2_1] 47 (0, 0)) (bk BK446.out)) : gb446 ≠ gb447)); have n9_ := Aside0.mk ((by rw [hg]; exact Nat.ne_of_gt (blk_lt (g := gb446) (o := .cells #[.int .i64 a2_0, .int .i64 a2_1] 47 (0, 0)) (bk BK446.out)) : gb447 ≠ gb446)); clear BK445; clear BK446; clear HB; have BK445 := n0_; have BK446 := n1_; have HB := n2_; have BK447 := n3_; have GW447 := n4_; have GE447 := n5_; have NB445_447 := n6_; have NB447_445 := n7_; have NB446_447 := n8_; have NB447_446 := n9_; clear n0_ n1_ n2_ n3_ n4_ n5_ n6_ n7_ n8_ n9_; clear hb hbox hg; have hnb14 := NB447_445.out; have hnc14 := NB445_447.out; have hnb15 := NB447_446.out; have hnc15 := NB446_447.out; have hcz16_0 : w13.cell? ⟨gb447, 0, none⟩ = some (.int .i64 0) := (blk_cell BK447.out 0).trans rfl; have hfz16_0 := blk_frozen BK447.out 0; have hnb17 := NB445_446.out; have hnc17 := NB446_445.out; have hcz18_0 : w13.cell? ⟨gb445, 0, none⟩ = some (.int .i64 a1_0) := (blk_cell BK445.out 0).trans rfl; have hcz18_1 : w13.cell? ⟨gb445, 1, none⟩ = some (.int .i64 a1_1) := (blk_cell BK445.out 1).trans rfl; have hcz18_2 : w13.cell? ⟨gb445, 2, none⟩ = some (.int .i64 a1_2) := (blk_cell BK445.out 2).trans rfl; have hcz18_3 : w13.cell? ⟨gb445, 3, none⟩ = some (.int .i64 a1_3) := (blk_cell BK445.out 3).trans rfl; have hfz18_0 := blk_frozen BK445.out 0; have hfz18_1 := blk_frozen BK445.out 1; have hfz18_2 := blk_frozen BK445.out 2; have hfz18_3 := blk_frozen BK445.out 3) | ((with_reducible refine gate_callee (f := 8) rfl ?_); refine goesL_ (some 24) rfl rfl Try.func8 (by kernel_rfl) rfl #[.agg #[.int .i64 (wrap64 (1 + (Int.tmod (wrap64 ((Int.tmod a0 16) + 16)) 16)))], .agg #[.int .i64 a1_0, .int .i64 a1_1, .int .i64 a1_2, .int .i64 a1_3]] rfl (by (try simp only [List.map_toArray, List.map_cons, List.map_nil]); first | done | rfl | (simp only [List.length_drop, List.length_take]; rfl)) ?_; (with_reducible refine (glebelaw04_Some.calls (wrap64 (1 + (Int.tmod (wrap64 ((Int.tmod a0 16) + 16)) 16))) a1_0 a1_1 a1_2 a1_3 t448 t449 t450 t451 _ A4.out).mono ?_); rintro e w19 ⟨rfl, hb⟩; refine ⟨_, rfl, ?_⟩; have n0_ := Aside0.mk (blk_below (g := gb445) (o := .cells #[.int .i64 a1_0, .int .i64 a1_1, .int .i64 a1_2, .int .i64 a1_3] 23 (0, 0)) (by (with_reducible repeat (first | refine blk_drewN ?_ _ | refine blk_drew ?_ | refine blk_alloc ?_ _)); refine blk_far ?_ NB445_447.out _; (with_reducible repeat (first | refine blk_drewN ?_ _ | refine blk_drew ?_ | refine blk_alloc ?_ _)); exact BK445.out) hb); have n1_ := Aside0.mk (blk_below (g := gb446) (o := .cells #[.int .i64 a2_0, .int .i64 a2_1] 47 (0, 0)) (by (with_reducible repeat (first | refine blk_drewN ?_ _ | refine blk_drew ?_ | refine blk_alloc ?_ _)); refine blk_far ?_ NB446_447.out _; (with_reducible repeat (first | refine blk_drewN ?_ _ | refine blk_drew ?_ | refine blk_alloc ?_ _)); exact BK446.out) hb); have n2_ := Aside0.mk (blk_below (g := gb447) (o := .cells #[.int .i64 (wrap64 (1 + (Int.tmod (wrap64 ((Int.tmod a0 16) + 16)) 16)))] 27 (0, 0)) (by (with_reducible repeat (first | refine blk_drewN ?_ _ | refine blk_drew ?_ | refine blk_alloc ?_ _)); refine blk_put (cs := #[.int .i64 0]) ?_ 0 _ rfl; (with_reducible repeat (first | refine blk_drewN ?_ _ | refine blk_drew ?_ | refine blk_alloc ?_ _)); exact BK447.out) hb); have n3_ := Aside0.mk (below_step (by repeat (first | (with_reducible first | exact HB.out | apply below_alloc | apply pw_below_drewN | apply below_drew1 | refine below_set ?_ GE445.out | refine below_set ?_ GE446.out | refine below_set ?_ GE447.out) | exact HB.out)) hb); clear BK445; clear BK446; clear BK447; clear HB; have BK445 := n0_; have BK446 := n1_; have BK447 := n2_; have HB := n3_; clear n0_ n1_ n2_ n3_; (try clear hb); (try clear hb2); (try clear hk); (try clear hi)) | ((with_reducible refine gate_dst (N := 8) rfl ?_); refine box_event ?hg (N := 8) ?hd (cs := #[.int .i64 0, .int .i64 0, .int .i64 0, .int .i64 0]) (t := 29) ?hr ?_; (case hd => rfl); (case hg => rfl); (case hr => first | (go_simp; done) | (go_simp; rfl)); intro gb452 hg w20 hbox hb; have n0_ := Aside0.mk (blk_below (g := gb445) (o := .cells #[.int .i64 a1_0, .int .i64 a1_1, .int .i64 a1_2, .int .i64 a1_3] 23 (0, 0)) (bk BK445.out) hb); have n1_ := Aside0.mk (blk_below (g := gb446) (o := .cells #[.int .i64 a2_0, .int .i64 a2_1] 47 (0, 0)) (bk BK446.out) hb); have n2_ := Aside0.mk (blk_below (g := gb447) (o := .cells #[.int .i64 (wrap64 (1 + (Int.tmod (wrap64 ((Int.tmod a0 16) + 16)) 16)))] 27 (0, 0)) (bk BK447.out) hb); have n3_ := Aside0.mk (below_step (by repeat (first | (with_reducible first | exact HB.out | apply below_alloc | apply pw_below_drewN | apply below_drew1 | refine below_set ?_ GE445.out | refine below_set ?_ GE446.out | refine below_set ?_ GE447.out) | exact HB.out)) hb); have n4_ := Aside0.mk (hbox); have n5_ := Aside0.mk ((by rw [hg]; exact (below_size (by repeat (first | (with_reducible first | exact HB.out | apply below_alloc | apply pw_below_drewN | apply below_drew1 | refine below_set ?_ GE445.out | refine below_set ?_ GE446.out | refine below_set ?_ GE447.out) | exact HB.out))) : w.heap.size ≤ gb452)); have n6_ := Aside0.mk ((by rw [hg]; exact (below_size (by repeat (first | (with_reducible first | exact HB.out | apply below_alloc | apply pw_below_drewN | apply below_drew1 | refine below_set ?_ GE445.out | refine below_set ?_ GE446.out | refine below_set ?_ GE447.out) | exact HB.out))) : w.heap.size ≤ gb452)); have n7_ := Aside0.mk ((by rw [hg]; exact Nat.ne_of_lt (blk_lt (g := gb445) (o := .cells #[.int .i64 a1_0, .int .i64 a1_1, .int .i64 a1_2, .int .i64 a1_3] 23 (0, 0)) (bk BK445.out)) : gb445 ≠ gb452)); have n8_ := Aside0.mk ((by rw [hg]; exact Nat.ne_of_gt (blk_lt (g := gb445) (o := .cells #[.int .i64 a1_0, .int .i64 a1_1, .int .i64 a1_2, .int .i64 a1_3] 23 (0, 0)) (bk BK445.out)) : gb452 ≠ gb445)); have n9_ := Aside0.mk ((by rw [hg]; exact Nat.ne_of_lt (blk_lt (g := gb446) (o := .cells #[.int .i64 a2_0, .int .i64 a2_1] 47 (0, 0)) (bk BK446.out)) : gb446 ≠ gb452)); have n10_ := Aside0.mk ((by rw [hg]; exact Nat.ne_of_gt (blk_lt (g := gb446) (o := .cells #[.int .i64 a2_0, .int .i64 a2_1] 47 (0, 0)) (bk BK446.out)) : gb452 ≠ gb446)); have n11_ := Aside0.mk ((by rw [hg]; exact Nat.ne_of_lt (blk_lt (g := gb447) (o := .cells #[.int .i64 (wrap64 (1 + (Int.tmod (wrap64 ((Int.tmod a0 16) + 16)) 16)))] 27 (0, 0)) (bk BK447.out)) : gb447 ≠ gb452)); have n12_ := Aside0.mk ((by rw [hg]; exact Nat.ne_of_gt (blk_lt (g := gb447) (o := .cells #[.int .i64 (wrap64 (1 + (Int.tmod (wrap64 ((Int.tmod a0 16) + 16)) 16)))] 27 (0, 0)) (bk BK447.out)) : gb452 ≠ gb447)); clear BK445; clear BK446; clear BK447; clear HB; have BK445 := n0_; have BK446 := n1_; have BK447 := n2_; have HB := n3_; have BK452 := n4_; have GW452 := n5_; have GE452 := n6_; have NB445_452 := n7_; have NB452_445 := n8_; have NB446_452 := n9_; have NB452_446 := n10_; have NB447_452 := n11_; have NB452_447 := n12_; clear n0_ n1_ n2_ n3_ n4_ n5_ n6_ n7_ n8_ n9_ n10_ n11_ n12_; clear hb hbox hg; have hnb21 := NB452_445.out; have hnc21 := NB445_452.out; have hnb22 := NB452_446.out; have hnc22 := NB446_452.out; have hnb23 := NB452_447.out; have hnc23 := NB447_452.out; have hcz24_0 : w20.cell? ⟨gb452, 0, none⟩ = some (.int .i64 0) := (blk_cell BK452.out 0).trans rfl; have hcz24_1 : w20.cell? ⟨gb452, 1, none⟩ = some (.int .i64 0) := (blk_cell BK452.out 1).trans rfl; have hcz24_2 : w20.cell? ⟨gb452, 2, none⟩ = some (.int .i64 0) := (blk_cell BK452.out 2).trans rfl; have hcz24_3 : w20.cell? ⟨gb452, 3, none⟩ = some (.int .i64 0) := (blk_cell BK452.out 3).trans rfl; have hfz24_0 := blk_frozen BK452.out 0; have hfz24_1 := blk_frozen BK452.out 1; have hfz24_2 := blk_frozen BK452.out 2; have hfz24_3 := blk_frozen BK452.out 3; have hcz25_0 : w20.cell? ⟨gb446, 0, none⟩ = some (.int .i64 a2_0) := (blk_cell BK446.out 0).trans rfl; have hcz25_1 : w20.cell? ⟨gb446, 1, none⟩ = some (.int .i64 a2_1) := (blk_cell BK446.out 1).trans rfl; have hfz25_0 := blk_frozen BK446.out 0; have hfz25_1 := blk_frozen BK446.out 1) | ((with_reducible refine gate_callee (f := 28) rfl ?_); refine goesL_ (some 27) rfl rfl Try.func28 (by kernel_rfl) rfl #[.int .i64 (wrap64 (1 + (Int.tmod (wrap64 ((Int.tmod a0 16) + 16)) 16))), .agg #[.int .i64 a2_0, .int .i64 a2_1]] rfl (by (try simp only [List.map_toArray, List.map_cons, List.map_nil]); first | done | rfl | (simp only [List.length_drop, List.length_take]; rfl)) ?_; (with_reducible refine (glebelaw03_Some.calls (wrap64 (1 + (Int.tmod (wrap64 ((Int.tmod a0 16) + 16)) 16))) a2_0 a2_1 t453 t454 _ A5.out).mono ?_); rintro e w26 ⟨rfl, hb⟩; refine ⟨_, rfl, ?_⟩; have n0_ := Aside0.mk (blk_below (g := gb445) (o := .cells #[.int .i64 a1_0, .int .i64 a1_1, .int .i64 a1_2, .int .i64 a1_3] 23 (0, 0)) (by (with_reducible repeat (first | refine blk_drewN ?_ _ | refine blk_drew ?_ | refine blk_alloc ?_ _)); refine blk_far ?_ NB445_452.out _; (with_reducible repeat (first | refine blk_drewN ?_ _ | refine blk_drew ?_ | refine blk_alloc ?_ _)); refine blk_far ?_ NB445_452.out _; (with_reducible repeat (first | refine blk_drewN ?_ _ | refine blk_drew ?_ | refine blk_alloc ?_ _)); refine blk_far ?_ NB445_452.out _; (with_reducible repeat (first | refine blk_drewN ?_ _ | refine blk_drew ?_ | refine blk_alloc ?_ _)); refine blk_far ?_ NB445_452.out _; (with_reducible repeat (first | refine blk_drewN ?_ _ | refine blk_drew ?_ | refine blk_alloc ?_ _)); exact BK445.out) hb); have n1_ := Aside0.mk (blk_below (g := gb446) (o := .cells #[.int .i64 a2_0, .int .i64 a2_1] 47 (0, 0)) (by (with_reducible repeat (first | refine blk_drewN ?_ _ | refine blk_drew ?_ | refine blk_alloc ?_ _)); refine blk_far ?_ NB446_452.out _; (with_reducible repeat (first | refine blk_drewN ?_ _ | refine blk_drew ?_ | refine blk_alloc ?_ _)); refine blk_far ?_ NB446_452.out _; (with_reducible repeat (first | refine blk_drewN ?_ _ | refine blk_drew ?_ | refine blk_alloc ?_ _)); refine blk_far ?_ NB446_452.out _; (with_reducible repeat (first | refine blk_drewN ?_ _ | refine blk_drew ?_ | refine blk_alloc ?_ _)); refine blk_far ?_ NB446_452.out _; (with_reducible repeat (first | refine blk_drewN ?_ _ | refine blk_drew ?_ | refine blk_alloc ?_ _)); exact BK446.out) hb); have n2_ := Aside0.mk (blk_below (g := gb447) (o := .cells #[.int .i64 (wrap64 (1 + (Int.tmod (wrap64 ((Int.tmod a0 16) + 16)) 16)))] 27 (0, 0)) (by (with_reducible repeat (first | refine blk_drewN ?_ _ | refine blk_drew ?_ | refine blk_alloc ?_ _)); refine blk_far ?_ NB447_452.out _; (with_reducible repeat (first | refine blk_drewN ?_ _ | refine blk_drew ?_ | refine blk_alloc ?_ _)); refine blk_far ?_ NB447_452.out _; (with_reducible repeat (first | refine blk_drewN ?_ _ | refine blk_drew ?_ | refine blk_alloc ?_ _)); refine blk_far ?_ NB447_452.out _; (with_reducible repeat (first | refine blk_drewN ?_ _ | refine blk_drew ?_ | refine blk_alloc ?_ _)); refine blk_far ?_ NB447_452.out _; (with_reducible repeat (first | refine blk_drewN ?_ _ | refine blk_drew ?_ | refine blk_alloc ?_ _)); exact BK447.out) hb); have n3_ := Aside0.mk (blk_below (g := gb452) (o := .cells #[.int .i64 t448, .int .i64 t449, .int .i64 t450, .int .i64 t451] 29 (0, 0)) (by (with_reducible repeat (first | refine blk_drewN ?_ _ | refine blk_drew ?_ | refine blk_alloc ?_ _)); refine blk_put (cs := #[.int .i64 t448, .int .i64 t449, .int .i64 t450, .int .i64 0]) ?_ 3 _ rfl; (with_reducible repeat (first | refine blk_drewN ?_ _ | refine blk_drew ?_ | refine blk_alloc ?_ _)); refine blk_put (cs := #[.int .i64 t448, .int .i64 t449, .int .i64 0, .int .i64 0]) ?_ 2 _ rfl; (with_reducible repeat (first | refine blk_drewN ?_ _ | refine blk_drew ?_ | refine blk_alloc ?_ _)); refine blk_put (cs := #[.int .i64 t448, .int .i64 0, .int .i64 0, .int .i64 0]) ?_ 1 _ rfl; (with_reducible repeat (first | refine blk_drewN ?_ _ | refine blk_drew ?_ | refine blk_alloc ?_ _)); refine blk_put (cs := #[.int .i64 0, .int .i64 0, .int .i64 0, .int .i64 0]) ?_ 0 _ rfl; (with_reducible repeat (first | refine blk_drewN ?_ _ | refine blk_drew ?_ | refine blk_alloc ?_ _)); exact BK452.out) hb); have n4_ := Aside0.mk (below_step (by repeat (first | (with_reducible first | exact HB.out | apply below_alloc | apply pw_below_drewN | apply below_drew1 | refine below_set ?_ GE445.out | refine below_set ?_ GE446.out | refine below_set ?_ GE447.out | refine below_set ?_ GE452.out) | exact HB.out)) hb); clear BK445; clear BK446; clear BK447; clear BK452; clear HB; have BK445 := n0_; have BK446 := n1_; have BK447 := n2_; have BK452 := n3_; have HB := n4_; clear n0_ n1_ n2_ n3_ n4_; (try clear hb); (try clear hb2); (try clear hk); (try clear hi); have hcz27_0 : w26.cell? ⟨gb446, 0, none⟩ = some (.int .i64 a2_0) := (blk_cell BK446.out 0).trans rfl; have hcz27_1 : w26.cell? ⟨gb446, 1, none⟩ = some (.int .i64 a2_1) := (blk_cell BK446.out 1).trans rfl; have hfz27_0 := blk_frozen BK446.out 0; have hfz27_1 := blk_frozen BK446.out 1; have hcz28_0 : w26.cell? ⟨gb447, 0, none⟩ = some (.int .i64 (wrap64 (1 + (Int.tmod (wrap64 ((Int.tmod a0 16) + 16)) 16)))) := (blk_cell BK447.out 0).trans rfl; have hfz28_0 := blk_frozen BK447.out 0; have hcz29_0 : w26.cell? ⟨gb452, 0, none⟩ = some (.int .i64 t448) := (blk_cell BK452.out 0).trans rfl; have hcz29_1 : w26.cell? ⟨gb452, 1, none⟩ = some (.int .i64 t449) := (blk_cell BK452.out 1).trans rfl; have hcz29_2 : w26.cell? ⟨gb452, 2, none⟩ = some (.int .i64 t450) := (blk_cell BK452.out 2).trans rfl; have hcz29_3 : w26.cell? ⟨gb452, 3, none⟩ = some (.int .i64 t451) := (blk_cell BK452.out 3).trans rfl; have hfz29_0 := blk_frozen BK452.out 0; have hfz29_1 := blk_frozen BK452.out 1; have hfz29_2 := blk_frozen BK452.out 2; have hfz29_3 := blk_frozen BK452.out 3) | ((with_reducible refine gate_callee (f := 23) rfl ?_); refine goesL_ (some 31) rfl rfl Try.func23 (by kernel_rfl) rfl #[.agg #[.int .i64 (wrap64 (1 + (Int.tmod (wrap64 ((Int.tmod a0 16) + 16)) 16)))], .agg #[.int .i64 t448, .int .i64 t449, .int .i64 t450, .int .i64 t451], .agg #[.int .i64 t453, .int .i64 t454]] rfl (by (try simp only [List.map_toArray, List.map_cons, List.map_nil]); first | done | rfl | (simp only [List.length_drop, List.length_take]; rfl)) ?_; (with_reducible refine (window_Cut.calls k (wrap64 (1 + (Int.tmod (wrap64 ((Int.tmod a0 16) + 16)) 16))) t448 t449 t450 t451 t453 t454 t455 _ A6.out).mono ?_); rintro e w30 ⟨v456, rfl, ho0, hb⟩; refine ⟨_, rfl, ?_⟩; have n0_ := Aside0.mk (Kd.R_lower (Kd.R_newB ho0 (g := gb452) (o := .cells #[.int .i64 t448, .int .i64 t449, .int .i64 t450, .int .i64 t451] 29 (0, 0)) (by (with_reducible repeat (first | refine blk_drewN ?_ _ | refine blk_drew ?_ | refine blk_alloc ?_ _)); refine blk_far ?_ NB452_446.out _; (with_reducible repeat (first | refine blk_drewN ?_ _ | refine blk_drew ?_ | refine blk_alloc ?_ _)); refine blk_far ?_ NB452_446.out _; (with_reducible repeat (first | refine blk_drewN ?_ _ | refine blk_drew ?_ | refine blk_alloc ?_ _)); exact BK452.out)) (below_size (by repeat (first | (with_reducible first | exact HB.out | apply below_alloc | apply pw_below_drewN | apply below_drew1 | refine below_set ?_ GE445.out | refine below_set ?_ GE446.out | refine below_set ?_ GE447.out | refine below_set ?_ GE452.out) | exact HB.out)))); have n1_ := Aside0.mk (blk_below (g := gb445) (o := .cells #[.int .i64 a1_0, .int .i64 a1_1, .int .i64 a1_2, .int .i64 a1_3] 23 (0, 0)) (by (with_reducible repeat (first | refine blk_drewN ?_ _ | refine blk_drew ?_ | refine blk_alloc ?_ _)); refine blk_far ?_ NB445_446.out _; (with_reducible repeat (first | refine blk_drewN ?_ _ | refine blk_drew ?_ | refine blk_alloc ?_ _)); refine blk_far ?_ NB445_446.out _; (with_reducible repeat (first | refine blk_drewN ?_ _ | refine blk_drew ?_ | refine blk_alloc ?_ _)); exact BK445.out) hb); have n2_ := Aside0.mk (blk_below (g := gb446) (o := .cells #[.int .i64 t453, .int .i64 t454] 47 (0, 0)) (by (with_reducible repeat (first | refine blk_drewN ?_ _ | refine blk_drew ?_ | refine blk_alloc ?_ _)); refine blk_put (cs := #[.int .i64 t453, .int .i64 a2_1]) ?_ 1 _ rfl; (with_reducible repeat (first | refine blk_drewN ?_ _ | refine blk_drew ?_ | refine blk_alloc ?_ _)); refine blk_put (cs := #[.int .i64 a2_0, .int .i64 a2_1]) ?_ 0 _ rfl; (with_reducible repeat (first | refine blk_drewN ?_ _ | refine blk_drew ?_ | refine blk_alloc ?_ _)); exact BK446.out) hb); have n3_ := Aside0.mk (blk_below (g := gb447) (o := .cells #[.int .i64 (wrap64 (1 + (Int.tmod (wrap64 ((Int.tmod a0 16) + 16)) 16)))] 27 (0, 0)) (by (with_reducible repeat (first | refine blk_drewN ?_ _ | refine blk_drew ?_ | refine blk_alloc ?_ _)); refine blk_far ?_ NB447_446.out _; (with_reducible repeat (first | refine blk_drewN ?_ _ | refine blk_drew ?_ | refine blk_alloc ?_ _)); refine blk_far ?_ NB447_446.out _; (with_reducible repeat (first | refine blk_drewN ?_ _ | refine blk_drew ?_ | refine blk_alloc ?_ _)); exact BK447.out) hb); have n4_ := Aside0.mk (blk_below (g := gb452) (o := .cells #[.int .i64 t448, .int .i64 t449, .int .i64 t450, .int .i64 t451] 29 (0, 0)) (by (with_reducible repeat (first | refine blk_drewN ?_ _ | refine blk_drew ?_ | refine blk_alloc ?_ _)); refine blk_far ?_ NB452_446.out _; (with_reducible repeat (first | refine blk_drewN ?_ _ | refine blk_drew ?_ | refine blk_alloc ?_ _)); refine blk_far ?_ NB452_446.out _; (with_reducible repeat (first | refine blk_drewN ?_ _ | refine blk_drew ?_ | refine blk_alloc ?_ _)); exact BK452.out) hb); have n5_ := Aside0.mk (below_step (by repeat (first | (with_reducible first | exact HB.out | apply below_alloc | apply pw_below_drewN | apply below_drew1 | refine below_set ?_ GE445.out | refine below_set ?_ GE446.out | refine below_set ?_ GE447.out | refine below_set ?_ GE452.out) | exact HB.out)) hb); clear BK445; clear BK446; clear BK447; clear BK452; clear HB; have HO457 := n0_; have BK445 := n1_; have BK446 := n2_; have BK447 := n3_; have BK452 := n4_; have HB := n5_; clear n0_ n1_ n2_ n3_ n4_ n5_; (try clear hb); (try clear hb2); (try clear hk); (try clear hi); (try clear ho0); obtain ⟨Ao31, co31, eo31⟩ := Kd.R_slice HO457.out; subst eo31) | ((with_reducible refine gate_callee (f := 19) rfl ?_); refine goesL_ (some 32) rfl rfl Try.func19 (by kernel_rfl) rfl #[.slice Ao31 t455.length co31] rfl (by (try simp only [List.map_toArray, List.map_cons, List.map_nil]); first | done | rfl | (simp only [List.length_drop, List.length_take]; rfl)) ?_; (with_reducible refine (glebelaw04_sum.calls k _ _ t455 t458 _ ?side1 ?side2 A7.out).mono ?_); (case side1 => repeat (first | exact (Kd.R_reads' HO457.out).2.2 | (with_reducible refine Kd.C_alloc ?_ _) | (with_reducible refine Kd.C_drewN ?_ _) | (with_reducible refine Kd.C_drew ?_))); (case side2 => exact (Kd.R_reads' HO457.out).2.1); rintro e w32 ⟨rfl, hb⟩; refine ⟨_, rfl, ?_⟩; have n0_ := Aside0.mk (Kd.R_below (br HO457.out) hb); have n1_ := Aside0.mk (blk_below (g := gb445) (o := .cells #[.int .i64 a1_0, .int .i64 a1_1, .int .i64 a1_2, .int .i64 a1_3] 23 (0, 0)) (bk BK445.out) hb); have n2_ := Aside0.mk (blk_below (g := gb446) (o := .cells #[.int .i64 t453, .int .i64 t454] 47 (0, 0)) (bk BK446.out) hb); have n3_ := Aside0.mk (blk_below (g := gb447) (o := .cells #[.int .i64 (wrap64 (1 + (Int.tmod (wrap64 ((Int.tmod a0 16) + 16)) 16)))] 27 (0, 0)) (bk BK447.out) hb); have n4_ := Aside0.mk (blk_below (g := gb452) (o := .cells #[.int .i64 t448, .int .i64 t449, .int .i64 t450, .int .i64 t451] 29 (0, 0)) (bk BK452.out) hb); have n5_ := Aside0.mk (below_step (by repeat (first | (with_reducible first | exact HB.out | apply below_alloc | apply pw_below_drewN | apply below_drew1 | refine below_set ?_ GE445.out | refine below_set ?_ GE446.out | refine below_set ?_ GE447.out | refine below_set ?_ GE452.out) | exact HB.out)) hb); clear HO457; clear BK445; clear BK446; clear BK447; clear BK452; clear HB; have HO457 := n0_; have BK445 := n1_; have BK446 := n2_; have BK447 := n3_; have BK452 := n4_; have HB := n5_; clear n0_ n1_ n2_ n3_ n4_ n5_; (try clear hb); (try clear hb2); (try clear hk); (try clear hi); have hcz33_0 : w32.cell? ⟨gb446, 0, none⟩ = some (.int .i64 t453) := (blk_cell BK446.out 0).trans rfl; have hcz33_1 : w32.cell? ⟨gb446, 1, none⟩ = some (.int .i64 t454) := (blk_cell BK446.out 1).trans rfl; have hfz33_0 := blk_frozen BK446.out 0; have hfz33_1 := blk_frozen BK446.out 1) | (go_at_call 12; (with_reducible refine (glebelaw04_knows.calls k  t459 _ A10.out).mono ?_); rintro e w34 ⟨rfl, hb⟩; have n0_ := Aside0.mk (Kd.R_below (br HO457.out) hb); have n1_ := Aside0.mk (blk_below (g := gb445) (o := .cells #[.int .i64 a1_0, .int .i64 a1_1, .int .i64 a1_2, .int .i64 a1_3] 23 (0, 0)) (bk BK445.out) hb); have n2_ := Aside0.mk (blk_below (g := gb446) (o := .cells #[.int .i64 t453, .int .i64 t454] 47 (0, 0)) (bk BK446.out) hb); have n3_ := Aside0.mk (blk_below (g := gb447) (o := .cells #[.int .i64 (wrap64 (1 + (Int.tmod (wrap64 ((Int.tmod a0 16) + 16)) 16)))] 27 (0, 0)) (bk BK447.out) hb); have n4_ := Aside0.mk (blk_below (g := gb452) (o := .cells #[.int .i64 t448, .int .i64 t449, .int .i64 t450, .int .i64 t451] 29 (0, 0)) (bk BK452.out) hb); have n5_ := Aside0.mk (below_step (by repeat (first | (with_reducible first | exact HB.out | apply below_alloc | apply pw_below_drewN | apply below_drew1 | refine below_set ?_ GE445.out | refine below_set ?_ GE446.out | refine below_set ?_ GE447.out | refine below_set ?_ GE452.out) | exact HB.out)) hb); clear HO457; clear BK445; clear BK446; clear BK447; clear BK452; clear HB; have HO457 := n0_; have BK445 := n1_; have BK446 := n2_; have BK447 := n3_; have BK452 := n4_; have HB := n5_; clear n0_ n1_ n2_ n3_ n4_ n5_; (try clear hb); (try clear hb2); (try clear hk); (try clear hi)))
   go_ret
   exact ⟨by first | rfl | (simp [errW_none, errW_some] <;> rfl) | (simp [*, errW_none, errW_some] <;> rfl), by repeat (first | (with_reducible first | exact HB.out | apply below_alloc | apply pw_below_drewN | apply below_drew1 | refine below_set ?_ GE445.out | refine below_set ?_ GE446.out | refine below_set ?_ GE447.out | refine below_set ?_ GE452.out) | exact HB.out)⟩
  ·rw [if_neg c9] at H
   exact absurd H (by simp)
 ·rw [if_neg c8] at H
  have c8b0 : (t453 == (wrap64 (2 * (wrap64 (1 + (Int.tmod (wrap64 ((Int.tmod a0 16) + 16)) 16)))))) = false := beq_eq_false_iff_ne.mpr c8
  have c8b1 : (t453 != (wrap64 (2 * (wrap64 (1 + (Int.tmod (wrap64 ((Int.tmod a0 16) + 16)) 16)))))) = true := bne_iff_ne.mpr c8
  replace H := Option.bind_eq_some_iff.mp H
  obtain ⟨⟨t460, t461, t462⟩, A350, H⟩ := H
  replace H : ((path_Child.f k t453 t454 1).bind fun bt464 => ((window_Covers.f k (wrap64 (1 + (Int.tmod (wrap64 ((Int.tmod a0 16) + 16)) 16))) t448 t449 t450 t451 t460 t461).bind fun t468 => (if t468 = true then ((window_Covers.f k (wrap64 (1 + (Int.tmod (wrap64 ((Int.tmod a0 16) + 16)) 16))) t448 t449 t450 t451 bt464.1 bt464.2.1).bind fun t469 => (glebelaw04_WindowHalves.j0 k t458 t462 bt464.2.2 t469 t453 t454 (wrap64 (1 + (Int.tmod (wrap64 ((Int.tmod a0 16) + 16)) 16))) t448 t449 t450 t451 t460 t461 bt464.1 bt464.2.1)) else (glebelaw04_WindowHalves.j0 k t458 t462 bt464.2.2 false t453 t454 (wrap64 (1 + (Int.tmod (wrap64 ((Int.tmod a0 16) + 16)) 16))) t448 t449 t450 t451 t460 t461 bt464.1 bt464.2.1)))) = some r := H
  have A35 := Aside0.mk A350
  clear A350
  replace H := Option.bind_eq_some_iff.mp H
  obtain ⟨⟨t464, t465, t466⟩, A360, H⟩ := H
  replace H : ((window_Covers.f k (wrap64 (1 + (Int.tmod (wrap64 ((Int.tmod a0 16) + 16)) 16))) t448 t449 t450 t451 t460 t461).bind fun t468 => (if t468 = true then ((window_Covers.f k (wrap64 (1 + (Int.tmod (wrap64 ((Int.tmod a0 16) + 16)) 16))) t448 t449 t450 t451 t464 t465).bind fun t469 => (glebelaw04_WindowHalves.j0 k t458 t462 t466 t469 t453 t454 (wrap64 (1 + (Int.tmod (wrap64 ((Int.tmod a0 16) + 16)) 16))) t448 t449 t450 t451 t460 t461 t464 t465)) else (glebelaw04_WindowHalves.j0 k t458 t462 t466 false t453 t454 (wrap64 (1 + (Int.tmod (wrap64 ((Int.tmod a0 16) + 16)) 16))) t448 t449 t450 t451 t460 t461 t464 t465))) = some r := H
  have A36 := Aside0.mk A360
  clear A360
  have HC37 := Aside0.mk H
  clear H
  go_enter Try.func6, Try.ntmps6
  go_upto_region 10 with (first | ((with_reducible refine gate_dst (N := 4) rfl ?_); refine box_event ?hg (N := 4) ?hd (cs := #[.int .i64 a1_0, .int .i64 a1_1, .int .i64 a1_2, .int .i64 a1_3]) (t := 23) ?hr ?_; (case hd => rfl); (case hg => rfl); (case hr => first | (go_simp; done) | (go_simp; rfl)); intro gb445 hg w38 hbox hb; have n0_ := Aside0.mk (below_step (bh HB.out) hb); have n1_ := Aside0.mk (hbox); have n2_ := Aside0.mk ((by rw [hg]; exact (below_size (bh HB.out)) : w.heap.size ≤ gb445)); have n3_ := Aside0.mk ((by rw [hg]; exact (below_size (bh HB.out)) : w.heap.size ≤ gb445)); clear HB; have HB := n0_; have BK445 := n1_; have GW445 := n2_; have GE445 := n3_; clear n0_ n1_ n2_ n3_; clear hb hbox hg) | ((with_reducible refine gate_dst (N := 5) rfl ?_); refine box_event ?hg (N := 5) ?hd (cs := #[.int .i64 a2_0, .int .i64 a2_1]) (t := 47) ?hr ?_; (case hd => rfl); (case hg => rfl); (case hr => first | (go_simp; done) | (go_simp; rfl)); intro gb446 hg w39 hbox hb; have n0_ := Aside0.mk (blk_below (g := gb445) (o := .cells #[.int .i64 a1_0, .int .i64 a1_1, .int .i64 a1_2, .int .i64 a1_3] 23 (0, 0)) (bk BK445.out) hb); have n1_ := Aside0.mk (below_step (by repeat (first | (with_reducible first | exact HB.out | apply below_alloc | apply pw_below_drewN | apply below_drew1 | refine below_set ?_ GE445.out) | exact HB.out)) hb); have n2_ := Aside0.mk (hbox); have n3_ := Aside0.mk ((by rw [hg]; exact (below_size (by repeat (first | (with_reducible first | exact HB.out | apply below_alloc | apply pw_below_drewN | apply below_drew1 | refine below_set ?_ GE445.out) | exact HB.out))) : w.heap.size ≤ gb446)); have n4_ := Aside0.mk ((by rw [hg]; exact (below_size (by repeat (first | (with_reducible first | exact HB.out | apply below_alloc | apply pw_below_drewN | apply below_drew1 | refine below_set ?_ GE445.out) | exact HB.out))) : w.heap.size ≤ gb446)); have n5_ := Aside0.mk ((by rw [hg]; exact Nat.ne_of_lt (blk_lt (g := gb445) (o := .cells #[.int .i64 a1_0, .int .i64 a1_1, .int .i64 a1_2, .int .i64 a1_3] 23 (0, 0)) (bk BK445.out)) : gb445 ≠ gb446)); have n6_ := Aside0.mk ((by rw [hg]; exact Nat.ne_of_gt (blk_lt (g := gb445) (o := .cells #[.int .i64 a1_0, .int .i64 a1_1, .int .i64 a1_2, .int .i64 a1_3] 23 (0, 0)) (bk BK445.out)) : gb446 ≠ gb445)); clear BK445; clear HB; have BK445 := n0_; have HB := n1_; have BK446 := n2_; have GW446 := n3_; have GE446 := n4_; have NB445_446 := n5_; have NB446_445 := n6_; clear n0_ n1_ n2_ n3_ n4_ n5_ n6_; clear hb hbox hg) | ((with_reducible refine gate_dst (N := 7) rfl ?_); refine box_event ?hg (N := 7) ?hd (cs := #[.int .i64 0]) (t := 27) ?hr ?_; (case hd => rfl); (case hg => rfl); (case hr => first | (go_simp; done) | (go_simp; rfl)); intro gb447 hg w40 hbox hb; have n0_ := Aside0.mk (blk_below (g := gb445) (o := .cells #[.int .i64 a1_0, .int .i64 a1_1, .int .i64 a1_2, .int .i64 a1_3] 23 (0, 0)) (bk BK445.out) hb); have n1_ := Aside0.mk (blk_below (g := gb446) (o := .cells #[.int .i64 a2_0, .int .i64 a2_1] 47 (0, 0)) (bk BK446.out) hb); have n2_ := Aside0.mk (below_step (by repeat (first | (with_reducible first | exact HB.out | apply below_alloc | apply pw_below_drewN | apply below_drew1 | refine below_set ?_ GE445.out | refine below_set ?_ GE446.out) | exact HB.out)) hb); have n3_ := Aside0.mk (hbox); have n4_ := Aside0.mk ((by rw [hg]; exact (below_size (by repeat (first | (with_reducible first | exact HB.out | apply below_alloc | apply pw_below_drewN | apply below_drew1 | refine below_set ?_ GE445.out | refine below_set ?_ GE446.out) | exact HB.out))) : w.heap.size ≤ gb447)); have n5_ := Aside0.mk ((by rw [hg]; exact (below_size (by repeat (first | (with_reducible first | exact HB.out | apply below_alloc | apply pw_below_drewN | apply below_drew1 | refine below_set ?_ GE445.out | refine below_set ?_ GE446.out) | exact HB.out))) : w.heap.size ≤ gb447)); have n6_ := Aside0.mk ((by rw [hg]; exact Nat.ne_of_lt (blk_lt (g := gb445) (o := .cells #[.int .i64 a1_0, .int .i64 a1_1, .int .i64 a1_2, .int .i64 a1_3] 23 (0, 0)) (bk BK445.out)) : gb445 ≠ gb447)); have n7_ := Aside0.mk ((by rw [hg]; exact Nat.ne_of_gt (blk_lt (g := gb445) (o := .cells #[.int .i64 a1_0, .int .i64 a1_1, .int .i64 a1_2, .int .i64 a1_3] 23 (0, 0)) (bk BK445.out)) : gb447 ≠ gb445)); have n8_ := Aside0.mk ((by rw [hg]; exact Nat.ne_of_lt (blk_lt (g := gb446) (o := .cells #[.int .i64 a2_0, .int .i64 a2_1] 47 (0, 0)) (bk BK446.out)) : gb446 ≠ gb447)); have n9_ := Aside0.mk ((by rw [hg]; exact Nat.ne_of_gt (blk_lt (g := gb446) (o := .cells #[.int .i64 a2_0, .int .i64 a2_1] 47 (0, 0)) (bk BK446.out)) : gb447 ≠ gb446)); clear BK445; clear BK446; clear HB; have BK445 := n0_; have BK446 := n1_; have HB := n2_; have BK447 := n3_; have GW447 := n4_; have GE447 := n5_; have NB445_447 := n6_; have NB447_445 := n7_; have NB446_447 := n8_; have NB447_446 := n9_; clear n0_ n1_ n2_ n3_ n4_ n5_ n6_ n7_ n8_ n9_; clear hb hbox hg; have hnb41 := NB447_445.out; have hnc41 := NB445_447.out; have hnb42 := NB447_446.out; have hnc42 := NB446_447.out; have hcz43_0 : w40.cell? ⟨gb447, 0, none⟩ = some (.int .i64 0) := (blk_cell BK447.out 0).trans rfl; have hfz43_0 := blk_frozen BK447.out 0; have hnb44 := NB445_446.out; have hnc44 := NB446_445.out; have hcz45_0 : w40.cell? ⟨gb445, 0, none⟩ = some (.int .i64 a1_0) := (blk_cell BK445.out 0).trans rfl; have hcz45_1 : w40.cell? ⟨gb445, 1, none⟩ = some (.int .i64 a1_1) := (blk_cell BK445.out 1).trans rfl; have hcz45_2 : w40.cell? ⟨gb445, 2, none⟩ = some (.int .i64 a1_2) := (blk_cell BK445.out 2).trans rfl; have hcz45_3 : w40.cell? ⟨gb445, 3, none⟩ = some (.int .i64 a1_3) := (blk_cell BK445.out 3).trans rfl; have hfz45_0 := blk_frozen BK445.out 0; have hfz45_1 := blk_frozen BK445.out 1; have hfz45_2 := blk_frozen BK445.out 2; have hfz45_3 := blk_frozen BK445.out 3) | ((with_reducible refine gate_callee (f := 8) rfl ?_); refine goesL_ (some 24) rfl rfl Try.func8 (by kernel_rfl) rfl #[.agg #[.int .i64 (wrap64 (1 + (Int.tmod (wrap64 ((Int.tmod a0 16) + 16)) 16)))], .agg #[.int .i64 a1_0, .int .i64 a1_1, .int .i64 a1_2, .int .i64 a1_3]] rfl (by (try simp only [List.map_toArray, List.map_cons, List.map_nil]); first | done | rfl | (simp only [List.length_drop, List.length_take]; rfl)) ?_; (with_reducible refine (glebelaw04_Some.calls (wrap64 (1 + (Int.tmod (wrap64 ((Int.tmod a0 16) + 16)) 16))) a1_0 a1_1 a1_2 a1_3 t448 t449 t450 t451 _ A4.out).mono ?_); rintro e w46 ⟨rfl, hb⟩; refine ⟨_, rfl, ?_⟩; have n0_ := Aside0.mk (blk_below (g := gb445) (o := .cells #[.int .i64 a1_0, .int .i64 a1_1, .int .i64 a1_2, .int .i64 a1_3] 23 (0, 0)) (by (with_reducible repeat (first | refine blk_drewN ?_ _ | refine blk_drew ?_ | refine blk_alloc ?_ _)); refine blk_far ?_ NB445_447.out _; (with_reducible repeat (first | refine blk_drewN ?_ _ | refine blk_drew ?_ | refine blk_alloc ?_ _)); exact BK445.out) hb); have n1_ := Aside0.mk (blk_below (g := gb446) (o := .cells #[.int .i64 a2_0, .int .i64 a2_1] 47 (0, 0)) (by (with_reducible repeat (first | refine blk_drewN ?_ _ | refine blk_drew ?_ | refine blk_alloc ?_ _)); refine blk_far ?_ NB446_447.out _; (with_reducible repeat (first | refine blk_drewN ?_ _ | refine blk_drew ?_ | refine blk_alloc ?_ _)); exact BK446.out) hb); have n2_ := Aside0.mk (blk_below (g := gb447) (o := .cells #[.int .i64 (wrap64 (1 + (Int.tmod (wrap64 ((Int.tmod a0 16) + 16)) 16)))] 27 (0, 0)) (by (with_reducible repeat (first | refine blk_drewN ?_ _ | refine blk_drew ?_ | refine blk_alloc ?_ _)); refine blk_put (cs := #[.int .i64 0]) ?_ 0 _ rfl; (with_reducible repeat (first | refine blk_drewN ?_ _ | refine blk_drew ?_ | refine blk_alloc ?_ _)); exact BK447.out) hb); have n3_ := Aside0.mk (below_step (by repeat (first | (with_reducible first | exact HB.out | apply below_alloc | apply pw_below_drewN | apply below_drew1 | refine below_set ?_ GE445.out | refine below_set ?_ GE446.out | refine below_set ?_ GE447.out) | exact HB.out)) hb); clear BK445; clear BK446; clear BK447; clear HB; have BK445 := n0_; have BK446 := n1_; have BK447 := n2_; have HB := n3_; clear n0_ n1_ n2_ n3_; (try clear hb); (try clear hb2); (try clear hk); (try clear hi)) | ((with_reducible refine gate_dst (N := 8) rfl ?_); refine box_event ?hg (N := 8) ?hd (cs := #[.int .i64 0, .int .i64 0, .int .i64 0, .int .i64 0]) (t := 29) ?hr ?_; (case hd => rfl); (case hg => rfl); (case hr => first | (go_simp; done) | (go_simp; rfl)); intro gb452 hg w47 hbox hb; have n0_ := Aside0.mk (blk_below (g := gb445) (o := .cells #[.int .i64 a1_0, .int .i64 a1_1, .int .i64 a1_2, .int .i64 a1_3] 23 (0, 0)) (bk BK445.out) hb); have n1_ := Aside0.mk (blk_below (g := gb446) (o := .cells #[.int .i64 a2_0, .int .i64 a2_1] 47 (0, 0)) (bk BK446.out) hb); have n2_ := Aside0.mk (blk_below (g := gb447) (o := .cells #[.int .i64 (wrap64 (1 + (Int.tmod (wrap64 ((Int.tmod a0 16) + 16)) 16)))] 27 (0, 0)) (bk BK447.out) hb); have n3_ := Aside0.mk (below_step (by repeat (first | (with_reducible first | exact HB.out | apply below_alloc | apply pw_below_drewN | apply below_drew1 | refine below_set ?_ GE445.out | refine below_set ?_ GE446.out | refine below_set ?_ GE447.out) | exact HB.out)) hb); have n4_ := Aside0.mk (hbox); have n5_ := Aside0.mk ((by rw [hg]; exact (below_size (by repeat (first | (with_reducible first | exact HB.out | apply below_alloc | apply pw_below_drewN | apply below_drew1 | refine below_set ?_ GE445.out | refine below_set ?_ GE446.out | refine below_set ?_ GE447.out) | exact HB.out))) : w.heap.size ≤ gb452)); have n6_ := Aside0.mk ((by rw [hg]; exact (below_size (by repeat (first | (with_reducible first | exact HB.out | apply below_alloc | apply pw_below_drewN | apply below_drew1 | refine below_set ?_ GE445.out | refine below_set ?_ GE446.out | refine below_set ?_ GE447.out) | exact HB.out))) : w.heap.size ≤ gb452)); have n7_ := Aside0.mk ((by rw [hg]; exact Nat.ne_of_lt (blk_lt (g := gb445) (o := .cells #[.int .i64 a1_0, .int .i64 a1_1, .int .i64 a1_2, .int .i64 a1_3] 23 (0, 0)) (bk BK445.out)) : gb445 ≠ gb452)); have n8_ := Aside0.mk ((by rw [hg]; exact Nat.ne_of_gt (blk_lt (g := gb445) (o := .cells #[.int .i64 a1_0, .int .i64 a1_1, .int .i64 a1_2, .int .i64 a1_3] 23 (0, 0)) (bk BK445.out)) : gb452 ≠ gb445)); have n9_ := Aside0.mk ((by rw [hg]; exact Nat.ne_of_lt (blk_lt (g := gb446) (o := .cells #[.int .i64 a2_0, .int .i64 a2_1] 47 (0, 0)) (bk BK446.out)) : gb446 ≠ gb452)); have n10_ := Aside0.mk ((by rw [hg]; exact Nat.ne_of_gt (blk_lt (g := gb446) (o := .cells #[.int .i64 a2_0, .int .i64 a2_1] 47 (0, 0)) (bk BK446.out)) : gb452 ≠ gb446)); have n11_ := Aside0.mk ((by rw [hg]; exact Nat.ne_of_lt (blk_lt (g := gb447) (o := .cells #[.int .i64 (wrap64 (1 + (Int.tmod (wrap64 ((Int.tmod a0 16) + 16)) 16)))] 27 (0, 0)) (bk BK447.out)) : gb447 ≠ gb452)); have n12_ := Aside0.mk ((by rw [hg]; exact Nat.ne_of_gt (blk_lt (g := gb447) (o := .cells #[.int .i64 (wrap64 (1 + (Int.tmod (wrap64 ((Int.tmod a0 16) + 16)) 16)))] 27 (0, 0)) (bk BK447.out)) : gb452 ≠ gb447)); clear BK445; clear BK446; clear BK447; clear HB; have BK445 := n0_; have BK446 := n1_; have BK447 := n2_; have HB := n3_; have BK452 := n4_; have GW452 := n5_; have GE452 := n6_; have NB445_452 := n7_; have NB452_445 := n8_; have NB446_452 := n9_; have NB452_446 := n10_; have NB447_452 := n11_; have NB452_447 := n12_; clear n0_ n1_ n2_ n3_ n4_ n5_ n6_ n7_ n8_ n9_ n10_ n11_ n12_; clear hb hbox hg; have hnb48 := NB452_445.out; have hnc48 := NB445_452.out; have hnb49 := NB452_446.out; have hnc49 := NB446_452.out; have hnb50 := NB452_447.out; have hnc50 := NB447_452.out; have hcz51_0 : w47.cell? ⟨gb452, 0, none⟩ = some (.int .i64 0) := (blk_cell BK452.out 0).trans rfl; have hcz51_1 : w47.cell? ⟨gb452, 1, none⟩ = some (.int .i64 0) := (blk_cell BK452.out 1).trans rfl; have hcz51_2 : w47.cell? ⟨gb452, 2, none⟩ = some (.int .i64 0) := (blk_cell BK452.out 2).trans rfl; have hcz51_3 : w47.cell? ⟨gb452, 3, none⟩ = some (.int .i64 0) := (blk_cell BK452.out 3).trans rfl; have hfz51_0 := blk_frozen BK452.out 0; have hfz51_1 := blk_frozen BK452.out 1; have hfz51_2 := blk_frozen BK452.out 2; have hfz51_3 := blk_frozen BK452.out 3; have hcz52_0 : w47.cell? ⟨gb446, 0, none⟩ = some (.int .i64 a2_0) := (blk_cell BK446.out 0).trans rfl; have hcz52_1 : w47.cell? ⟨gb446, 1, none⟩ = some (.int .i64 a2_1) := (blk_cell BK446.out 1).trans rfl; have hfz52_0 := blk_frozen BK446.out 0; have hfz52_1 := blk_frozen BK446.out 1) | ((with_reducible refine gate_callee (f := 28) rfl ?_); refine goesL_ (some 27) rfl rfl Try.func28 (by kernel_rfl) rfl #[.int .i64 (wrap64 (1 + (Int.tmod (wrap64 ((Int.tmod a0 16) + 16)) 16))), .agg #[.int .i64 a2_0, .int .i64 a2_1]] rfl (by (try simp only [List.map_toArray, List.map_cons, List.map_nil]); first | done | rfl | (simp only [List.length_drop, List.length_take]; rfl)) ?_; (with_reducible refine (glebelaw03_Some.calls (wrap64 (1 + (Int.tmod (wrap64 ((Int.tmod a0 16) + 16)) 16))) a2_0 a2_1 t453 t454 _ A5.out).mono ?_); rintro e w53 ⟨rfl, hb⟩; refine ⟨_, rfl, ?_⟩; have n0_ := Aside0.mk (blk_below (g := gb445) (o := .cells #[.int .i64 a1_0, .int .i64 a1_1, .int .i64 a1_2, .int .i64 a1_3] 23 (0, 0)) (by (with_reducible repeat (first | refine blk_drewN ?_ _ | refine blk_drew ?_ | refine blk_alloc ?_ _)); refine blk_far ?_ NB445_452.out _; (with_reducible repeat (first | refine blk_drewN ?_ _ | refine blk_drew ?_ | refine blk_alloc ?_ _)); refine blk_far ?_ NB445_452.out _; (with_reducible repeat (first | refine blk_drewN ?_ _ | refine blk_drew ?_ | refine blk_alloc ?_ _)); refine blk_far ?_ NB445_452.out _; (with_reducible repeat (first | refine blk_drewN ?_ _ | refine blk_drew ?_ | refine blk_alloc ?_ _)); refine blk_far ?_ NB445_452.out _; (with_reducible repeat (first | refine blk_drewN ?_ _ | refine blk_drew ?_ | refine blk_alloc ?_ _)); exact BK445.out) hb); have n1_ := Aside0.mk (blk_below (g := gb446) (o := .cells #[.int .i64 a2_0, .int .i64 a2_1] 47 (0, 0)) (by (with_reducible repeat (first | refine blk_drewN ?_ _ | refine blk_drew ?_ | refine blk_alloc ?_ _)); refine blk_far ?_ NB446_452.out _; (with_reducible repeat (first | refine blk_drewN ?_ _ | refine blk_drew ?_ | refine blk_alloc ?_ _)); refine blk_far ?_ NB446_452.out _; (with_reducible repeat (first | refine blk_drewN ?_ _ | refine blk_drew ?_ | refine blk_alloc ?_ _)); refine blk_far ?_ NB446_452.out _; (with_reducible repeat (first | refine blk_drewN ?_ _ | refine blk_drew ?_ | refine blk_alloc ?_ _)); refine blk_far ?_ NB446_452.out _; (with_reducible repeat (first | refine blk_drewN ?_ _ | refine blk_drew ?_ | refine blk_alloc ?_ _)); exact BK446.out) hb); have n2_ := Aside0.mk (blk_below (g := gb447) (o := .cells #[.int .i64 (wrap64 (1 + (Int.tmod (wrap64 ((Int.tmod a0 16) + 16)) 16)))] 27 (0, 0)) (by (with_reducible repeat (first | refine blk_drewN ?_ _ | refine blk_drew ?_ | refine blk_alloc ?_ _)); refine blk_far ?_ NB447_452.out _; (with_reducible repeat (first | refine blk_drewN ?_ _ | refine blk_drew ?_ | refine blk_alloc ?_ _)); refine blk_far ?_ NB447_452.out _; (with_reducible repeat (first | refine blk_drewN ?_ _ | refine blk_drew ?_ | refine blk_alloc ?_ _)); refine blk_far ?_ NB447_452.out _; (with_reducible repeat (first | refine blk_drewN ?_ _ | refine blk_drew ?_ | refine blk_alloc ?_ _)); refine blk_far ?_ NB447_452.out _; (with_reducible repeat (first | refine blk_drewN ?_ _ | refine blk_drew ?_ | refine blk_alloc ?_ _)); exact BK447.out) hb); have n3_ := Aside0.mk (blk_below (g := gb452) (o := .cells #[.int .i64 t448, .int .i64 t449, .int .i64 t450, .int .i64 t451] 29 (0, 0)) (by (with_reducible repeat (first | refine blk_drewN ?_ _ | refine blk_drew ?_ | refine blk_alloc ?_ _)); refine blk_put (cs := #[.int .i64 t448, .int .i64 t449, .int .i64 t450, .int .i64 0]) ?_ 3 _ rfl; (with_reducible repeat (first | refine blk_drewN ?_ _ | refine blk_drew ?_ | refine blk_alloc ?_ _)); refine blk_put (cs := #[.int .i64 t448, .int .i64 t449, .int .i64 0, .int .i64 0]) ?_ 2 _ rfl; (with_reducible repeat (first | refine blk_drewN ?_ _ | refine blk_drew ?_ | refine blk_alloc ?_ _)); refine blk_put (cs := #[.int .i64 t448, .int .i64 0, .int .i64 0, .int .i64 0]) ?_ 1 _ rfl; (with_reducible repeat (first | refine blk_drewN ?_ _ | refine blk_drew ?_ | refine blk_alloc ?_ _)); refine blk_put (cs := #[.int .i64 0, .int .i64 0, .int .i64 0, .int .i64 0]) ?_ 0 _ rfl; (with_reducible repeat (first | refine blk_drewN ?_ _ | refine blk_drew ?_ | refine blk_alloc ?_ _)); exact BK452.out) hb); have n4_ := Aside0.mk (below_step (by repeat (first | (with_reducible first | exact HB.out | apply below_alloc | apply pw_below_drewN | apply below_drew1 | refine below_set ?_ GE445.out | refine below_set ?_ GE446.out | refine below_set ?_ GE447.out | refine below_set ?_ GE452.out) | exact HB.out)) hb); clear BK445; clear BK446; clear BK447; clear BK452; clear HB; have BK445 := n0_; have BK446 := n1_; have BK447 := n2_; have BK452 := n3_; have HB := n4_; clear n0_ n1_ n2_ n3_ n4_; (try clear hb); (try clear hb2); (try clear hk); (try clear hi); have hcz54_0 : w53.cell? ⟨gb446, 0, none⟩ = some (.int .i64 a2_0) := (blk_cell BK446.out 0).trans rfl; have hcz54_1 : w53.cell? ⟨gb446, 1, none⟩ = some (.int .i64 a2_1) := (blk_cell BK446.out 1).trans rfl; have hfz54_0 := blk_frozen BK446.out 0; have hfz54_1 := blk_frozen BK446.out 1; have hcz55_0 : w53.cell? ⟨gb447, 0, none⟩ = some (.int .i64 (wrap64 (1 + (Int.tmod (wrap64 ((Int.tmod a0 16) + 16)) 16)))) := (blk_cell BK447.out 0).trans rfl; have hfz55_0 := blk_frozen BK447.out 0; have hcz56_0 : w53.cell? ⟨gb452, 0, none⟩ = some (.int .i64 t448) := (blk_cell BK452.out 0).trans rfl; have hcz56_1 : w53.cell? ⟨gb452, 1, none⟩ = some (.int .i64 t449) := (blk_cell BK452.out 1).trans rfl; have hcz56_2 : w53.cell? ⟨gb452, 2, none⟩ = some (.int .i64 t450) := (blk_cell BK452.out 2).trans rfl; have hcz56_3 : w53.cell? ⟨gb452, 3, none⟩ = some (.int .i64 t451) := (blk_cell BK452.out 3).trans rfl; have hfz56_0 := blk_frozen BK452.out 0; have hfz56_1 := blk_frozen BK452.out 1; have hfz56_2 := blk_frozen BK452.out 2; have hfz56_3 := blk_frozen BK452.out 3) | ((with_reducible refine gate_callee (f := 23) rfl ?_); refine goesL_ (some 31) rfl rfl Try.func23 (by kernel_rfl) rfl #[.agg #[.int .i64 (wrap64 (1 + (Int.tmod (wrap64 ((Int.tmod a0 16) + 16)) 16)))], .agg #[.int .i64 t448, .int .i64 t449, .int .i64 t450, .int .i64 t451], .agg #[.int .i64 t453, .int .i64 t454]] rfl (by (try simp only [List.map_toArray, List.map_cons, List.map_nil]); first | done | rfl | (simp only [List.length_drop, List.length_take]; rfl)) ?_; (with_reducible refine (window_Cut.calls k (wrap64 (1 + (Int.tmod (wrap64 ((Int.tmod a0 16) + 16)) 16))) t448 t449 t450 t451 t453 t454 t455 _ A6.out).mono ?_); rintro e w57 ⟨v456, rfl, ho0, hb⟩; refine ⟨_, rfl, ?_⟩; have n0_ := Aside0.mk (Kd.R_lower (Kd.R_newB ho0 (g := gb452) (o := .cells #[.int .i64 t448, .int .i64 t449, .int .i64 t450, .int .i64 t451] 29 (0, 0)) (by (with_reducible repeat (first | refine blk_drewN ?_ _ | refine blk_drew ?_ | refine blk_alloc ?_ _)); refine blk_far ?_ NB452_446.out _; (with_reducible repeat (first | refine blk_drewN ?_ _ | refine blk_drew ?_ | refine blk_alloc ?_ _)); refine blk_far ?_ NB452_446.out _; (with_reducible repeat (first | refine blk_drewN ?_ _ | refine blk_drew ?_ | refine blk_alloc ?_ _)); exact BK452.out)) (below_size (by repeat (first | (with_reducible first | exact HB.out | apply below_alloc | apply pw_below_drewN | apply below_drew1 | refine below_set ?_ GE445.out | refine below_set ?_ GE446.out | refine below_set ?_ GE447.out | refine below_set ?_ GE452.out) | exact HB.out)))); have n1_ := Aside0.mk (blk_below (g := gb445) (o := .cells #[.int .i64 a1_0, .int .i64 a1_1, .int .i64 a1_2, .int .i64 a1_3] 23 (0, 0)) (by (with_reducible repeat (first | refine blk_drewN ?_ _ | refine blk_drew ?_ | refine blk_alloc ?_ _)); refine blk_far ?_ NB445_446.out _; (with_reducible repeat (first | refine blk_drewN ?_ _ | refine blk_drew ?_ | refine blk_alloc ?_ _)); refine blk_far ?_ NB445_446.out _; (with_reducible repeat (first | refine blk_drewN ?_ _ | refine blk_drew ?_ | refine blk_alloc ?_ _)); exact BK445.out) hb); have n2_ := Aside0.mk (blk_below (g := gb446) (o := .cells #[.int .i64 t453, .int .i64 t454] 47 (0, 0)) (by (with_reducible repeat (first | refine blk_drewN ?_ _ | refine blk_drew ?_ | refine blk_alloc ?_ _)); refine blk_put (cs := #[.int .i64 t453, .int .i64 a2_1]) ?_ 1 _ rfl; (with_reducible repeat (first | refine blk_drewN ?_ _ | refine blk_drew ?_ | refine blk_alloc ?_ _)); refine blk_put (cs := #[.int .i64 a2_0, .int .i64 a2_1]) ?_ 0 _ rfl; (with_reducible repeat (first | refine blk_drewN ?_ _ | refine blk_drew ?_ | refine blk_alloc ?_ _)); exact BK446.out) hb); have n3_ := Aside0.mk (blk_below (g := gb447) (o := .cells #[.int .i64 (wrap64 (1 + (Int.tmod (wrap64 ((Int.tmod a0 16) + 16)) 16)))] 27 (0, 0)) (by (with_reducible repeat (first | refine blk_drewN ?_ _ | refine blk_drew ?_ | refine blk_alloc ?_ _)); refine blk_far ?_ NB447_446.out _; (with_reducible repeat (first | refine blk_drewN ?_ _ | refine blk_drew ?_ | refine blk_alloc ?_ _)); refine blk_far ?_ NB447_446.out _; (with_reducible repeat (first | refine blk_drewN ?_ _ | refine blk_drew ?_ | refine blk_alloc ?_ _)); exact BK447.out) hb); have n4_ := Aside0.mk (blk_below (g := gb452) (o := .cells #[.int .i64 t448, .int .i64 t449, .int .i64 t450, .int .i64 t451] 29 (0, 0)) (by (with_reducible repeat (first | refine blk_drewN ?_ _ | refine blk_drew ?_ | refine blk_alloc ?_ _)); refine blk_far ?_ NB452_446.out _; (with_reducible repeat (first | refine blk_drewN ?_ _ | refine blk_drew ?_ | refine blk_alloc ?_ _)); refine blk_far ?_ NB452_446.out _; (with_reducible repeat (first | refine blk_drewN ?_ _ | refine blk_drew ?_ | refine blk_alloc ?_ _)); exact BK452.out) hb); have n5_ := Aside0.mk (below_step (by repeat (first | (with_reducible first | exact HB.out | apply below_alloc | apply pw_below_drewN | apply below_drew1 | refine below_set ?_ GE445.out | refine below_set ?_ GE446.out | refine below_set ?_ GE447.out | refine below_set ?_ GE452.out) | exact HB.out)) hb); clear BK445; clear BK446; clear BK447; clear BK452; clear HB; have HO457 := n0_; have BK445 := n1_; have BK446 := n2_; have BK447 := n3_; have BK452 := n4_; have HB := n5_; clear n0_ n1_ n2_ n3_ n4_ n5_; (try clear hb); (try clear hb2); (try clear hk); (try clear hi); (try clear ho0); obtain ⟨Ao58, co58, eo58⟩ := Kd.R_slice HO457.out; subst eo58) | ((with_reducible refine gate_callee (f := 19) rfl ?_); refine goesL_ (some 32) rfl rfl Try.func19 (by kernel_rfl) rfl #[.slice Ao58 t455.length co58] rfl (by (try simp only [List.map_toArray, List.map_cons, List.map_nil]); first | done | rfl | (simp only [List.length_drop, List.length_take]; rfl)) ?_; (with_reducible refine (glebelaw04_sum.calls k _ _ t455 t458 _ ?side1 ?side2 A7.out).mono ?_); (case side1 => repeat (first | exact (Kd.R_reads' HO457.out).2.2 | (with_reducible refine Kd.C_alloc ?_ _) | (with_reducible refine Kd.C_drewN ?_ _) | (with_reducible refine Kd.C_drew ?_))); (case side2 => exact (Kd.R_reads' HO457.out).2.1); rintro e w59 ⟨rfl, hb⟩; refine ⟨_, rfl, ?_⟩; have n0_ := Aside0.mk (Kd.R_below (br HO457.out) hb); have n1_ := Aside0.mk (blk_below (g := gb445) (o := .cells #[.int .i64 a1_0, .int .i64 a1_1, .int .i64 a1_2, .int .i64 a1_3] 23 (0, 0)) (bk BK445.out) hb); have n2_ := Aside0.mk (blk_below (g := gb446) (o := .cells #[.int .i64 t453, .int .i64 t454] 47 (0, 0)) (bk BK446.out) hb); have n3_ := Aside0.mk (blk_below (g := gb447) (o := .cells #[.int .i64 (wrap64 (1 + (Int.tmod (wrap64 ((Int.tmod a0 16) + 16)) 16)))] 27 (0, 0)) (bk BK447.out) hb); have n4_ := Aside0.mk (blk_below (g := gb452) (o := .cells #[.int .i64 t448, .int .i64 t449, .int .i64 t450, .int .i64 t451] 29 (0, 0)) (bk BK452.out) hb); have n5_ := Aside0.mk (below_step (by repeat (first | (with_reducible first | exact HB.out | apply below_alloc | apply pw_below_drewN | apply below_drew1 | refine below_set ?_ GE445.out | refine below_set ?_ GE446.out | refine below_set ?_ GE447.out | refine below_set ?_ GE452.out) | exact HB.out)) hb); clear HO457; clear BK445; clear BK446; clear BK447; clear BK452; clear HB; have HO457 := n0_; have BK445 := n1_; have BK446 := n2_; have BK447 := n3_; have BK452 := n4_; have HB := n5_; clear n0_ n1_ n2_ n3_ n4_ n5_; (try clear hb); (try clear hb2); (try clear hk); (try clear hi); have hcz60_0 : w59.cell? ⟨gb446, 0, none⟩ = some (.int .i64 t453) := (blk_cell BK446.out 0).trans rfl; have hcz60_1 : w59.cell? ⟨gb446, 1, none⟩ = some (.int .i64 t454) := (blk_cell BK446.out 1).trans rfl; have hfz60_0 := blk_frozen BK446.out 0; have hfz60_1 := blk_frozen BK446.out 1) | ((with_reducible refine gate_callee (f := 29) rfl ?_); refine goesL_ (some 45) rfl rfl Try.func29 (by kernel_rfl) rfl #[.agg #[.int .i64 t453, .int .i64 t454], .int .i64 0] rfl (by (try simp only [List.map_toArray, List.map_cons, List.map_nil]); first | done | rfl | (simp only [List.length_drop, List.length_take]; rfl)) ?_; (with_reducible refine (path_Child.calls k t453 t454 0 t460 t461 t462 _ A35.out).mono ?_); rintro e w61 ⟨rfl, hb⟩; refine ⟨_, rfl, ?_⟩; have n0_ := Aside0.mk (Kd.R_below (br HO457.out) hb); have n1_ := Aside0.mk (blk_below (g := gb445) (o := .cells #[.int .i64 a1_0, .int .i64 a1_1, .int .i64 a1_2, .int .i64 a1_3] 23 (0, 0)) (bk BK445.out) hb); have n2_ := Aside0.mk (blk_below (g := gb446) (o := .cells #[.int .i64 t453, .int .i64 t454] 47 (0, 0)) (bk BK446.out) hb); have n3_ := Aside0.mk (blk_below (g := gb447) (o := .cells #[.int .i64 (wrap64 (1 + (Int.tmod (wrap64 ((Int.tmod a0 16) + 16)) 16)))] 27 (0, 0)) (bk BK447.out) hb); have n4_ := Aside0.mk (blk_below (g := gb452) (o := .cells #[.int .i64 t448, .int .i64 t449, .int .i64 t450, .int .i64 t451] 29 (0, 0)) (bk BK452.out) hb); have n5_ := Aside0.mk (below_step (by repeat (first | (with_reducible first | exact HB.out | apply below_alloc | apply pw_below_drewN | apply below_drew1 | refine below_set ?_ GE445.out | refine below_set ?_ GE446.out | refine below_set ?_ GE447.out | refine below_set ?_ GE452.out) | exact HB.out)) hb); clear HO457; clear BK445; clear BK446; clear BK447; clear BK452; clear HB; have HO457 := n0_; have BK445 := n1_; have BK446 := n2_; have BK447 := n3_; have BK452 := n4_; have HB := n5_; clear n0_ n1_ n2_ n3_ n4_ n5_; (try clear hb); (try clear hb2); (try clear hk); (try clear hi)) | ((with_reducible refine gate_dst (N := 10) rfl ?_); refine box_event ?hg (N := 10) ?hd (cs := #[.int .i64 0, .int .i64 0]) (t := 47) ?hr ?_; (case hd => rfl); (case hg => rfl); (case hr => first | (go_simp; done) | (go_simp; rfl)); intro gb463 hg w62 hbox hb; have n0_ := Aside0.mk (Kd.R_below (br HO457.out) hb); have n1_ := Aside0.mk (blk_below (g := gb445) (o := .cells #[.int .i64 a1_0, .int .i64 a1_1, .int .i64 a1_2, .int .i64 a1_3] 23 (0, 0)) (bk BK445.out) hb); have n2_ := Aside0.mk (blk_below (g := gb446) (o := .cells #[.int .i64 t453, .int .i64 t454] 47 (0, 0)) (bk BK446.out) hb); have n3_ := Aside0.mk (blk_below (g := gb447) (o := .cells #[.int .i64 (wrap64 (1 + (Int.tmod (wrap64 ((Int.tmod a0 16) + 16)) 16)))] 27 (0, 0)) (bk BK447.out) hb); have n4_ := Aside0.mk (blk_below (g := gb452) (o := .cells #[.int .i64 t448, .int .i64 t449, .int .i64 t450, .int .i64 t451] 29 (0, 0)) (bk BK452.out) hb); have n5_ := Aside0.mk (below_step (by repeat (first | (with_reducible first | exact HB.out | apply below_alloc | apply pw_below_drewN | apply below_drew1 | refine below_set ?_ GE445.out | refine below_set ?_ GE446.out | refine below_set ?_ GE447.out | refine below_set ?_ GE452.out) | exact HB.out)) hb); have n6_ := Aside0.mk (hbox); have n7_ := Aside0.mk ((by rw [hg]; exact (below_size (by repeat (first | (with_reducible first | exact HB.out | apply below_alloc | apply pw_below_drewN | apply below_drew1 | refine below_set ?_ GE445.out | refine below_set ?_ GE446.out | refine below_set ?_ GE447.out | refine below_set ?_ GE452.out) | exact HB.out))) : w.heap.size ≤ gb463)); have n8_ := Aside0.mk ((by rw [hg]; exact (below_size (by repeat (first | (with_reducible first | exact HB.out | apply below_alloc | apply pw_below_drewN | apply below_drew1 | refine below_set ?_ GE445.out | refine below_set ?_ GE446.out | refine below_set ?_ GE447.out | refine below_set ?_ GE452.out) | exact HB.out))) : w.heap.size ≤ gb463)); have n9_ := Aside0.mk ((by rw [hg]; exact Nat.ne_of_lt (blk_lt (g := gb445) (o := .cells #[.int .i64 a1_0, .int .i64 a1_1, .int .i64 a1_2, .int .i64 a1_3] 23 (0, 0)) (bk BK445.out)) : gb445 ≠ gb463)); have n10_ := Aside0.mk ((by rw [hg]; exact Nat.ne_of_gt (blk_lt (g := gb445) (o := .cells #[.int .i64 a1_0, .int .i64 a1_1, .int .i64 a1_2, .int .i64 a1_3] 23 (0, 0)) (bk BK445.out)) : gb463 ≠ gb445)); have n11_ := Aside0.mk ((by rw [hg]; exact Nat.ne_of_lt (blk_lt (g := gb446) (o := .cells #[.int .i64 t453, .int .i64 t454] 47 (0, 0)) (bk BK446.out)) : gb446 ≠ gb463)); have n12_ := Aside0.mk ((by rw [hg]; exact Nat.ne_of_gt (blk_lt (g := gb446) (o := .cells #[.int .i64 t453, .int .i64 t454] 47 (0, 0)) (bk BK446.out)) : gb463 ≠ gb446)); have n13_ := Aside0.mk ((by rw [hg]; exact Nat.ne_of_lt (blk_lt (g := gb447) (o := .cells #[.int .i64 (wrap64 (1 + (Int.tmod (wrap64 ((Int.tmod a0 16) + 16)) 16)))] 27 (0, 0)) (bk BK447.out)) : gb447 ≠ gb463)); have n14_ := Aside0.mk ((by rw [hg]; exact Nat.ne_of_gt (blk_lt (g := gb447) (o := .cells #[.int .i64 (wrap64 (1 + (Int.tmod (wrap64 ((Int.tmod a0 16) + 16)) 16)))] 27 (0, 0)) (bk BK447.out)) : gb463 ≠ gb447)); have n15_ := Aside0.mk ((by rw [hg]; exact Nat.ne_of_lt (blk_lt (g := gb452) (o := .cells #[.int .i64 t448, .int .i64 t449, .int .i64 t450, .int .i64 t451] 29 (0, 0)) (bk BK452.out)) : gb452 ≠ gb463)); have n16_ := Aside0.mk ((by rw [hg]; exact Nat.ne_of_gt (blk_lt (g := gb452) (o := .cells #[.int .i64 t448, .int .i64 t449, .int .i64 t450, .int .i64 t451] 29 (0, 0)) (bk BK452.out)) : gb463 ≠ gb452)); clear HO457; clear BK445; clear BK446; clear BK447; clear BK452; clear HB; have HO457 := n0_; have BK445 := n1_; have BK446 := n2_; have BK447 := n3_; have BK452 := n4_; have HB := n5_; have BK463 := n6_; have GW463 := n7_; have GE463 := n8_; have NB445_463 := n9_; have NB463_445 := n10_; have NB446_463 := n11_; have NB463_446 := n12_; have NB447_463 := n13_; have NB463_447 := n14_; have NB452_463 := n15_; have NB463_452 := n16_; clear n0_ n1_ n2_ n3_ n4_ n5_ n6_ n7_ n8_ n9_ n10_ n11_ n12_ n13_ n14_ n15_ n16_; clear hb hbox hg; have hnb63 := NB463_445.out; have hnc63 := NB445_463.out; have hnb64 := NB463_446.out; have hnc64 := NB446_463.out; have hnb65 := NB463_447.out; have hnc65 := NB447_463.out; have hnb66 := NB463_452.out; have hnc66 := NB452_463.out; have hcz67_0 : w62.cell? ⟨gb463, 0, none⟩ = some (.int .i64 0) := (blk_cell BK463.out 0).trans rfl; have hcz67_1 : w62.cell? ⟨gb463, 1, none⟩ = some (.int .i64 0) := (blk_cell BK463.out 1).trans rfl; have hfz67_0 := blk_frozen BK463.out 0; have hfz67_1 := blk_frozen BK463.out 1; have hcz68_0 : w62.cell? ⟨gb446, 0, none⟩ = some (.int .i64 t453) := (blk_cell BK446.out 0).trans rfl; have hcz68_1 : w62.cell? ⟨gb446, 1, none⟩ = some (.int .i64 t454) := (blk_cell BK446.out 1).trans rfl; have hfz68_0 := blk_frozen BK446.out 0; have hfz68_1 := blk_frozen BK446.out 1) | ((with_reducible refine gate_callee (f := 29) rfl ?_); refine goesL_ (some 50) rfl rfl Try.func29 (by kernel_rfl) rfl #[.agg #[.int .i64 t453, .int .i64 t454], .int .i64 1] rfl (by (try simp only [List.map_toArray, List.map_cons, List.map_nil]); first | done | rfl | (simp only [List.length_drop, List.length_take]; rfl)) ?_; (with_reducible refine (path_Child.calls k t453 t454 1 t464 t465 t466 _ A36.out).mono ?_); rintro e w69 ⟨rfl, hb⟩; refine ⟨_, rfl, ?_⟩; have n0_ := Aside0.mk (Kd.R_below (by (with_reducible repeat (first | apply Kd.R_alloc | apply Kd.R_drewN | apply Kd.R_drew)); exact (Kd.R_mono (Kd.R_far (p := ⟨gb463, 1, none⟩) (Kd.R_far (p := ⟨gb463, 0, none⟩) (Kd.R_types HO457.out BK463.out (by decide)) (fun _ hk => hk.2) (.int .i64 t460)) (fun _ hk => hk.2) (.int .i64 t461)) (fun _ h_ => h_.1))) hb); have n1_ := Aside0.mk (blk_below (g := gb445) (o := .cells #[.int .i64 a1_0, .int .i64 a1_1, .int .i64 a1_2, .int .i64 a1_3] 23 (0, 0)) (by (with_reducible repeat (first | refine blk_drewN ?_ _ | refine blk_drew ?_ | refine blk_alloc ?_ _)); refine blk_far ?_ NB445_463.out _; (with_reducible repeat (first | refine blk_drewN ?_ _ | refine blk_drew ?_ | refine blk_alloc ?_ _)); refine blk_far ?_ NB445_463.out _; (with_reducible repeat (first | refine blk_drewN ?_ _ | refine blk_drew ?_ | refine blk_alloc ?_ _)); exact BK445.out) hb); have n2_ := Aside0.mk (blk_below (g := gb446) (o := .cells #[.int .i64 t453, .int .i64 t454] 47 (0, 0)) (by (with_reducible repeat (first | refine blk_drewN ?_ _ | refine blk_drew ?_ | refine blk_alloc ?_ _)); refine blk_far ?_ NB446_463.out _; (with_reducible repeat (first | refine blk_drewN ?_ _ | refine blk_drew ?_ | refine blk_alloc ?_ _)); refine blk_far ?_ NB446_463.out _; (with_reducible repeat (first | refine blk_drewN ?_ _ | refine blk_drew ?_ | refine blk_alloc ?_ _)); exact BK446.out) hb); have n3_ := Aside0.mk (blk_below (g := gb447) (o := .cells #[.int .i64 (wrap64 (1 + (Int.tmod (wrap64 ((Int.tmod a0 16) + 16)) 16)))] 27 (0, 0)) (by (with_reducible repeat (first | refine blk_drewN ?_ _ | refine blk_drew ?_ | refine blk_alloc ?_ _)); refine blk_far ?_ NB447_463.out _; (with_reducible repeat (first | refine blk_drewN ?_ _ | refine blk_drew ?_ | refine blk_alloc ?_ _)); refine blk_far ?_ NB447_463.out _; (with_reducible repeat (first | refine blk_drewN ?_ _ | refine blk_drew ?_ | refine blk_alloc ?_ _)); exact BK447.out) hb); have n4_ := Aside0.mk (blk_below (g := gb452) (o := .cells #[.int .i64 t448, .int .i64 t449, .int .i64 t450, .int .i64 t451] 29 (0, 0)) (by (with_reducible repeat (first | refine blk_drewN ?_ _ | refine blk_drew ?_ | refine blk_alloc ?_ _)); refine blk_far ?_ NB452_463.out _; (with_reducible repeat (first | refine blk_drewN ?_ _ | refine blk_drew ?_ | refine blk_alloc ?_ _)); refine blk_far ?_ NB452_463.out _; (with_reducible repeat (first | refine blk_drewN ?_ _ | refine blk_drew ?_ | refine blk_alloc ?_ _)); exact BK452.out) hb); have n5_ := Aside0.mk (blk_below (g := gb463) (o := .cells #[.int .i64 t460, .int .i64 t461] 47 (0, 0)) (by (with_reducible repeat (first | refine blk_drewN ?_ _ | refine blk_drew ?_ | refine blk_alloc ?_ _)); refine blk_put (cs := #[.int .i64 t460, .int .i64 0]) ?_ 1 _ rfl; (with_reducible repeat (first | refine blk_drewN ?_ _ | refine blk_drew ?_ | refine blk_alloc ?_ _)); refine blk_put (cs := #[.int .i64 0, .int .i64 0]) ?_ 0 _ rfl; (with_reducible repeat (first | refine blk_drewN ?_ _ | refine blk_drew ?_ | refine blk_alloc ?_ _)); exact BK463.out) hb); have n6_ := Aside0.mk (below_step (by repeat (first | (with_reducible first | exact HB.out | apply below_alloc | apply pw_below_drewN | apply below_drew1 | refine below_set ?_ GE445.out | refine below_set ?_ GE446.out | refine below_set ?_ GE447.out | refine below_set ?_ GE452.out | refine below_set ?_ GE463.out) | exact HB.out)) hb); clear HO457; clear BK445; clear BK446; clear BK447; clear BK452; clear BK463; clear HB; have HO457 := n0_; have BK445 := n1_; have BK446 := n2_; have BK447 := n3_; have BK452 := n4_; have BK463 := n5_; have HB := n6_; clear n0_ n1_ n2_ n3_ n4_ n5_ n6_; (try clear hb); (try clear hb2); (try clear hk); (try clear hi)) | ((with_reducible refine gate_dst (N := 12) rfl ?_); refine box_event ?hg (N := 12) ?hd (cs := #[.int .i64 0, .int .i64 0]) (t := 47) ?hr ?_; (case hd => rfl); (case hg => rfl); (case hr => first | (go_simp; done) | (go_simp; rfl)); intro gb467 hg w70 hbox hb; have n0_ := Aside0.mk (Kd.R_below (br HO457.out) hb); have n1_ := Aside0.mk (blk_below (g := gb445) (o := .cells #[.int .i64 a1_0, .int .i64 a1_1, .int .i64 a1_2, .int .i64 a1_3] 23 (0, 0)) (bk BK445.out) hb); have n2_ := Aside0.mk (blk_below (g := gb446) (o := .cells #[.int .i64 t453, .int .i64 t454] 47 (0, 0)) (bk BK446.out) hb); have n3_ := Aside0.mk (blk_below (g := gb447) (o := .cells #[.int .i64 (wrap64 (1 + (Int.tmod (wrap64 ((Int.tmod a0 16) + 16)) 16)))] 27 (0, 0)) (bk BK447.out) hb); have n4_ := Aside0.mk (blk_below (g := gb452) (o := .cells #[.int .i64 t448, .int .i64 t449, .int .i64 t450, .int .i64 t451] 29 (0, 0)) (bk BK452.out) hb); have n5_ := Aside0.mk (blk_below (g := gb463) (o := .cells #[.int .i64 t460, .int .i64 t461] 47 (0, 0)) (bk BK463.out) hb); have n6_ := Aside0.mk (below_step (by repeat (first | (with_reducible first | exact HB.out | apply below_alloc | apply pw_below_drewN | apply below_drew1 | refine below_set ?_ GE445.out | refine below_set ?_ GE446.out | refine below_set ?_ GE447.out | refine below_set ?_ GE452.out | refine below_set ?_ GE463.out) | exact HB.out)) hb); have n7_ := Aside0.mk (hbox); have n8_ := Aside0.mk ((by rw [hg]; exact (below_size (by repeat (first | (with_reducible first | exact HB.out | apply below_alloc | apply pw_below_drewN | apply below_drew1 | refine below_set ?_ GE445.out | refine below_set ?_ GE446.out | refine below_set ?_ GE447.out | refine below_set ?_ GE452.out | refine below_set ?_ GE463.out) | exact HB.out))) : w.heap.size ≤ gb467)); have n9_ := Aside0.mk ((by rw [hg]; exact (below_size (by repeat (first | (with_reducible first | exact HB.out | apply below_alloc | apply pw_below_drewN | apply below_drew1 | refine below_set ?_ GE445.out | refine below_set ?_ GE446.out | refine below_set ?_ GE447.out | refine below_set ?_ GE452.out | refine below_set ?_ GE463.out) | exact HB.out))) : w.heap.size ≤ gb467)); have n10_ := Aside0.mk ((by rw [hg]; exact Nat.ne_of_lt (blk_lt (g := gb445) (o := .cells #[.int .i64 a1_0, .int .i64 a1_1, .int .i64 a1_2, .int .i64 a1_3] 23 (0, 0)) (bk BK445.out)) : gb445 ≠ gb467)); have n11_ := Aside0.mk ((by rw [hg]; exact Nat.ne_of_gt (blk_lt (g := gb445) (o := .cells #[.int .i64 a1_0, .int .i64 a1_1, .int .i64 a1_2, .int .i64 a1_3] 23 (0, 0)) (bk BK445.out)) : gb467 ≠ gb445)); have n12_ := Aside0.mk ((by rw [hg]; exact Nat.ne_of_lt (blk_lt (g := gb446) (o := .cells #[.int .i64 t453, .int .i64 t454] 47 (0, 0)) (bk BK446.out)) : gb446 ≠ gb467)); have n13_ := Aside0.mk ((by rw [hg]; exact Nat.ne_of_gt (blk_lt (g := gb446) (o := .cells #[.int .i64 t453, .int .i64 t454] 47 (0, 0)) (bk BK446.out)) : gb467 ≠ gb446)); have n14_ := Aside0.mk ((by rw [hg]; exact Nat.ne_of_lt (blk_lt (g := gb447) (o := .cells #[.int .i64 (wrap64 (1 + (Int.tmod (wrap64 ((Int.tmod a0 16) + 16)) 16)))] 27 (0, 0)) (bk BK447.out)) : gb447 ≠ gb467)); have n15_ := Aside0.mk ((by rw [hg]; exact Nat.ne_of_gt (blk_lt (g := gb447) (o := .cells #[.int .i64 (wrap64 (1 + (Int.tmod (wrap64 ((Int.tmod a0 16) + 16)) 16)))] 27 (0, 0)) (bk BK447.out)) : gb467 ≠ gb447)); have n16_ := Aside0.mk ((by rw [hg]; exact Nat.ne_of_lt (blk_lt (g := gb452) (o := .cells #[.int .i64 t448, .int .i64 t449, .int .i64 t450, .int .i64 t451] 29 (0, 0)) (bk BK452.out)) : gb452 ≠ gb467)); have n17_ := Aside0.mk ((by rw [hg]; exact Nat.ne_of_gt (blk_lt (g := gb452) (o := .cells #[.int .i64 t448, .int .i64 t449, .int .i64 t450, .int .i64 t451] 29 (0, 0)) (bk BK452.out)) : gb467 ≠ gb452)); have n18_ := Aside0.mk ((by rw [hg]; exact Nat.ne_of_lt (blk_lt (g := gb463) (o := .cells #[.int .i64 t460, .int .i64 t461] 47 (0, 0)) (bk BK463.out)) : gb463 ≠ gb467)); have n19_ := Aside0.mk ((by rw [hg]; exact Nat.ne_of_gt (blk_lt (g := gb463) (o := .cells #[.int .i64 t460, .int .i64 t461] 47 (0, 0)) (bk BK463.out)) : gb467 ≠ gb463)); clear HO457; clear BK445; clear BK446; clear BK447; clear BK452; clear BK463; clear HB; have HO457 := n0_; have BK445 := n1_; have BK446 := n2_; have BK447 := n3_; have BK452 := n4_; have BK463 := n5_; have HB := n6_; have BK467 := n7_; have GW467 := n8_; have GE467 := n9_; have NB445_467 := n10_; have NB467_445 := n11_; have NB446_467 := n12_; have NB467_446 := n13_; have NB447_467 := n14_; have NB467_447 := n15_; have NB452_467 := n16_; have NB467_452 := n17_; have NB463_467 := n18_; have NB467_463 := n19_; clear n0_ n1_ n2_ n3_ n4_ n5_ n6_ n7_ n8_ n9_ n10_ n11_ n12_ n13_ n14_ n15_ n16_ n17_ n18_ n19_; clear hb hbox hg; have hnb71 := NB467_445.out; have hnc71 := NB445_467.out; have hnb72 := NB467_446.out; have hnc72 := NB446_467.out; have hnb73 := NB467_447.out; have hnc73 := NB447_467.out; have hnb74 := NB467_452.out; have hnc74 := NB452_467.out; have hnb75 := NB467_463.out; have hnc75 := NB463_467.out; have hcz76_0 : w70.cell? ⟨gb467, 0, none⟩ = some (.int .i64 0) := (blk_cell BK467.out 0).trans rfl; have hcz76_1 : w70.cell? ⟨gb467, 1, none⟩ = some (.int .i64 0) := (blk_cell BK467.out 1).trans rfl; have hfz76_0 := blk_frozen BK467.out 0; have hfz76_1 := blk_frozen BK467.out 1))
  (try simp only [Act.put, List.setIfInBounds_toArray, List.set_cons_zero, List.set_cons_succ])
  go_cut [14] (fun v14 wc => ∃ (kq : Nat) (x14_36 : Bool), v14 = .bool x14_36 ∧ Aside0 (glebelaw04_WindowHalves.j0 kq t458 t462 t466 x14_36 t453 t454 (wrap64 (1 + (Int.tmod (wrap64 ((Int.tmod a0 16) + 16)) 16))) t448 t449 t450 t451 t460 t461 t464 t465 = some r) ∧ Aside0 (kq ≤ k) ∧ Aside0 (wc.heap[gb445]? = some (.cells #[.int .i64 a1_0, .int .i64 a1_1, .int .i64 a1_2, .int .i64 a1_3] 23 (0, 0))) ∧ Aside0 (wc.heap[gb446]? = some (.cells #[.int .i64 t453, .int .i64 t454] 47 (0, 0))) ∧ Aside0 (wc.heap[gb447]? = some (.cells #[.int .i64 (wrap64 (1 + (Int.tmod (wrap64 ((Int.tmod a0 16) + 16)) 16)))] 27 (0, 0))) ∧ Aside0 (wc.heap[gb452]? = some (.cells #[.int .i64 t448, .int .i64 t449, .int .i64 t450, .int .i64 t451] 29 (0, 0))) ∧ Aside0 (wc.heap[gb463]? = some (.cells #[.int .i64 t460, .int .i64 t461] 47 (0, 0))) ∧ Aside0 (wc.heap[gb467]? = some (.cells #[.int .i64 t464, .int .i64 t465] 47 (0, 0))) ∧ Aside0 (Below w.heap.size w wc))
  case first =>
   have H := HC37.out
   clear HC37
   replace H := Option.bind_eq_some_iff.mp H
   obtain ⟨t468, A770, H⟩ := H
   replace H : (if t468 = true then ((window_Covers.f k (wrap64 (1 + (Int.tmod (wrap64 ((Int.tmod a0 16) + 16)) 16))) t448 t449 t450 t451 t464 t465).bind fun t469 => (glebelaw04_WindowHalves.j0 k t458 t462 t466 t469 t453 t454 (wrap64 (1 + (Int.tmod (wrap64 ((Int.tmod a0 16) + 16)) 16))) t448 t449 t450 t451 t460 t461 t464 t465)) else (glebelaw04_WindowHalves.j0 k t458 t462 t466 false t453 t454 (wrap64 (1 + (Int.tmod (wrap64 ((Int.tmod a0 16) + 16)) 16))) t448 t449 t450 t451 t460 t461 t464 t465)) = some r := H
   have A77 := Aside0.mk A770
   clear A770
   by_cases c78 : t468 = true
   ·subst c78
    have H1 : ((window_Covers.f k (wrap64 (1 + (Int.tmod (wrap64 ((Int.tmod a0 16) + 16)) 16))) t448 t449 t450 t451 t464 t465).bind fun t469 => (glebelaw04_WindowHalves.j0 k t458 t462 t466 t469 t453 t454 (wrap64 (1 + (Int.tmod (wrap64 ((Int.tmod a0 16) + 16)) 16))) t448 t449 t450 t451 t460 t461 t464 t465)) = some r := by rw [if_pos rfl] at H; exact H
    clear H
    have H := H1
    clear H1
    replace H := Option.bind_eq_some_iff.mp H
    obtain ⟨t469, A790, H⟩ := H
    replace H : (glebelaw04_WindowHalves.j0 k t458 t462 t466 t469 t453 t454 (wrap64 (1 + (Int.tmod (wrap64 ((Int.tmod a0 16) + 16)) 16))) t448 t449 t450 t451 t460 t461 t464 t465) = some r := H
    have A79 := Aside0.mk A790
    clear A790
    have H' := Aside0.mk H
    clear H
    have hnb80 := NB447_445.out
    have hnc80 := NB445_447.out
    have hnb81 := NB447_446.out
    have hnc81 := NB446_447.out
    have hnb82 := NB447_452.out
    have hnc82 := NB452_447.out
    have hnb83 := NB447_463.out
    have hnc83 := NB463_447.out
    have hnb84 := NB447_467.out
    have hnc84 := NB467_447.out
    have hcz85_0 : w70.cell? ⟨gb447, 0, none⟩ = some (.int .i64 (wrap64 (1 + (Int.tmod (wrap64 ((Int.tmod a0 16) + 16)) 16)))) := (blk_cell BK447.out 0).trans rfl
    have hfz85_0 := blk_frozen BK447.out 0
    have hnb86 := NB452_445.out
    have hnc86 := NB445_452.out
    have hnb87 := NB452_446.out
    have hnc87 := NB446_452.out
    have hnb88 := NB452_463.out
    have hnc88 := NB463_452.out
    have hnb89 := NB452_467.out
    have hnc89 := NB467_452.out
    have hcz90_0 : w70.cell? ⟨gb452, 0, none⟩ = some (.int .i64 t448) := (blk_cell BK452.out 0).trans rfl
    have hcz90_1 : w70.cell? ⟨gb452, 1, none⟩ = some (.int .i64 t449) := (blk_cell BK452.out 1).trans rfl
    have hcz90_2 : w70.cell? ⟨gb452, 2, none⟩ = some (.int .i64 t450) := (blk_cell BK452.out 2).trans rfl
    have hcz90_3 : w70.cell? ⟨gb452, 3, none⟩ = some (.int .i64 t451) := (blk_cell BK452.out 3).trans rfl
    have hfz90_0 := blk_frozen BK452.out 0
    have hfz90_1 := blk_frozen BK452.out 1
    have hfz90_2 := blk_frozen BK452.out 2
    have hfz90_3 := blk_frozen BK452.out 3
    have hnb91 := NB463_445.out
    have hnc91 := NB445_463.out
    have hnb92 := NB463_446.out
    have hnc92 := NB446_463.out
    have hnb93 := NB463_467.out
    have hnc93 := NB467_463.out
    have hcz94_0 : w70.cell? ⟨gb463, 0, none⟩ = some (.int .i64 t460) := (blk_cell BK463.out 0).trans rfl
    have hcz94_1 : w70.cell? ⟨gb463, 1, none⟩ = some (.int .i64 t461) := (blk_cell BK463.out 1).trans rfl
    have hfz94_0 := blk_frozen BK463.out 0
    have hfz94_1 := blk_frozen BK463.out 1
    go_wp2_with (first | ((with_reducible refine gate_callee (f := 25) rfl ?_); refine goesL_ (some 56) rfl rfl Try.func25 (by kernel_rfl) rfl #[.agg #[.int .i64 (wrap64 (1 + (Int.tmod (wrap64 ((Int.tmod a0 16) + 16)) 16)))], .agg #[.int .i64 t448, .int .i64 t449, .int .i64 t450, .int .i64 t451], .agg #[.int .i64 t460, .int .i64 t461]] rfl (by (try simp only [List.map_toArray, List.map_cons, List.map_nil]); first | done | rfl | (simp only [List.length_drop, List.length_take]; rfl)) ?_; (with_reducible refine (window_Covers.calls k (wrap64 (1 + (Int.tmod (wrap64 ((Int.tmod a0 16) + 16)) 16))) t448 t449 t450 t451 t460 t461 true _ A77.out).mono ?_); rintro e w95 ⟨rfl, hb⟩; refine ⟨_, rfl, ?_⟩; have n0_ := Aside0.mk (Kd.R_below (by (with_reducible repeat (first | apply Kd.R_alloc | apply Kd.R_drewN | apply Kd.R_drew)); exact (Kd.R_mono (Kd.R_far (p := ⟨gb467, 1, none⟩) (Kd.R_far (p := ⟨gb467, 0, none⟩) (Kd.R_types HO457.out BK467.out (by decide)) (fun _ hk => hk.2) (.int .i64 t464)) (fun _ hk => hk.2) (.int .i64 t465)) (fun _ h_ => h_.1))) hb); have n1_ := Aside0.mk (blk_below (g := gb445) (o := .cells #[.int .i64 a1_0, .int .i64 a1_1, .int .i64 a1_2, .int .i64 a1_3] 23 (0, 0)) (by (with_reducible repeat (first | refine blk_drewN ?_ _ | refine blk_drew ?_ | refine blk_alloc ?_ _)); refine blk_far ?_ NB445_467.out _; (with_reducible repeat (first | refine blk_drewN ?_ _ | refine blk_drew ?_ | refine blk_alloc ?_ _)); refine blk_far ?_ NB445_467.out _; (with_reducible repeat (first | refine blk_drewN ?_ _ | refine blk_drew ?_ | refine blk_alloc ?_ _)); exact BK445.out) hb); have n2_ := Aside0.mk (blk_below (g := gb446) (o := .cells #[.int .i64 t453, .int .i64 t454] 47 (0, 0)) (by (with_reducible repeat (first | refine blk_drewN ?_ _ | refine blk_drew ?_ | refine blk_alloc ?_ _)); refine blk_far ?_ NB446_467.out _; (with_reducible repeat (first | refine blk_drewN ?_ _ | refine blk_drew ?_ | refine blk_alloc ?_ _)); refine blk_far ?_ NB446_467.out _; (with_reducible repeat (first | refine blk_drewN ?_ _ | refine blk_drew ?_ | refine blk_alloc ?_ _)); exact BK446.out) hb); have n3_ := Aside0.mk (blk_below (g := gb447) (o := .cells #[.int .i64 (wrap64 (1 + (Int.tmod (wrap64 ((Int.tmod a0 16) + 16)) 16)))] 27 (0, 0)) (by (with_reducible repeat (first | refine blk_drewN ?_ _ | refine blk_drew ?_ | refine blk_alloc ?_ _)); refine blk_far ?_ NB447_467.out _; (with_reducible repeat (first | refine blk_drewN ?_ _ | refine blk_drew ?_ | refine blk_alloc ?_ _)); refine blk_far ?_ NB447_467.out _; (with_reducible repeat (first | refine blk_drewN ?_ _ | refine blk_drew ?_ | refine blk_alloc ?_ _)); exact BK447.out) hb); have n4_ := Aside0.mk (blk_below (g := gb452) (o := .cells #[.int .i64 t448, .int .i64 t449, .int .i64 t450, .int .i64 t451] 29 (0, 0)) (by (with_reducible repeat (first | refine blk_drewN ?_ _ | refine blk_drew ?_ | refine blk_alloc ?_ _)); refine blk_far ?_ NB452_467.out _; (with_reducible repeat (first | refine blk_drewN ?_ _ | refine blk_drew ?_ | refine blk_alloc ?_ _)); refine blk_far ?_ NB452_467.out _; (with_reducible repeat (first | refine blk_drewN ?_ _ | refine blk_drew ?_ | refine blk_alloc ?_ _)); exact BK452.out) hb); have n5_ := Aside0.mk (blk_below (g := gb463) (o := .cells #[.int .i64 t460, .int .i64 t461] 47 (0, 0)) (by (with_reducible repeat (first | refine blk_drewN ?_ _ | refine blk_drew ?_ | refine blk_alloc ?_ _)); refine blk_far ?_ NB463_467.out _; (with_reducible repeat (first | refine blk_drewN ?_ _ | refine blk_drew ?_ | refine blk_alloc ?_ _)); refine blk_far ?_ NB463_467.out _; (with_reducible repeat (first | refine blk_drewN ?_ _ | refine blk_drew ?_ | refine blk_alloc ?_ _)); exact BK463.out) hb); have n6_ := Aside0.mk (blk_below (g := gb467) (o := .cells #[.int .i64 t464, .int .i64 t465] 47 (0, 0)) (by (with_reducible repeat (first | refine blk_drewN ?_ _ | refine blk_drew ?_ | refine blk_alloc ?_ _)); refine blk_put (cs := #[.int .i64 t464, .int .i64 0]) ?_ 1 _ rfl; (with_reducible repeat (first | refine blk_drewN ?_ _ | refine blk_drew ?_ | refine blk_alloc ?_ _)); refine blk_put (cs := #[.int .i64 0, .int .i64 0]) ?_ 0 _ rfl; (with_reducible repeat (first | refine blk_drewN ?_ _ | refine blk_drew ?_ | refine blk_alloc ?_ _)); exact BK467.out) hb); have n7_ := Aside0.mk (below_step (by repeat (first | (with_reducible first | exact HB.out | apply below_alloc | apply pw_below_drewN | apply below_drew1 | refine below_set ?_ GE445.out | refine below_set ?_ GE446.out | refine below_set ?_ GE447.out | refine below_set ?_ GE452.out | refine below_set ?_ GE463.out | refine below_set ?_ GE467.out) | exact HB.out)) hb); clear HO457; clear BK445; clear BK446; clear BK447; clear BK452; clear BK463; clear BK467; clear HB; have HO457 := n0_; have BK445 := n1_; have BK446 := n2_; have BK447 := n3_; have BK452 := n4_; have BK463 := n5_; have BK467 := n6_; have HB := n7_; clear n0_ n1_ n2_ n3_ n4_ n5_ n6_ n7_; (try clear hb); (try clear hb2); (try clear hk); (try clear hi); have hcz96_0 : w95.cell? ⟨gb447, 0, none⟩ = some (.int .i64 (wrap64 (1 + (Int.tmod (wrap64 ((Int.tmod a0 16) + 16)) 16)))) := (blk_cell BK447.out 0).trans rfl; have hfz96_0 := blk_frozen BK447.out 0; have hcz97_0 : w95.cell? ⟨gb452, 0, none⟩ = some (.int .i64 t448) := (blk_cell BK452.out 0).trans rfl; have hcz97_1 : w95.cell? ⟨gb452, 1, none⟩ = some (.int .i64 t449) := (blk_cell BK452.out 1).trans rfl; have hcz97_2 : w95.cell? ⟨gb452, 2, none⟩ = some (.int .i64 t450) := (blk_cell BK452.out 2).trans rfl; have hcz97_3 : w95.cell? ⟨gb452, 3, none⟩ = some (.int .i64 t451) := (blk_cell BK452.out 3).trans rfl; have hfz97_0 := blk_frozen BK452.out 0; have hfz97_1 := blk_frozen BK452.out 1; have hfz97_2 := blk_frozen BK452.out 2; have hfz97_3 := blk_frozen BK452.out 3; have hnb98 := NB467_445.out; have hnc98 := NB445_467.out; have hnb99 := NB467_446.out; have hnc99 := NB446_467.out; have hcz100_0 : w95.cell? ⟨gb467, 0, none⟩ = some (.int .i64 t464) := (blk_cell BK467.out 0).trans rfl; have hcz100_1 : w95.cell? ⟨gb467, 1, none⟩ = some (.int .i64 t465) := (blk_cell BK467.out 1).trans rfl; have hfz100_0 := blk_frozen BK467.out 0; have hfz100_1 := blk_frozen BK467.out 1) | (go_at_call 25; (with_reducible refine (window_Covers.calls k (wrap64 (1 + (Int.tmod (wrap64 ((Int.tmod a0 16) + 16)) 16))) t448 t449 t450 t451 t464 t465 t469 _ A79.out).mono ?_); rintro e w101 ⟨rfl, hb⟩; have n0_ := Aside0.mk (Kd.R_below (br HO457.out) hb); have n1_ := Aside0.mk (blk_below (g := gb445) (o := .cells #[.int .i64 a1_0, .int .i64 a1_1, .int .i64 a1_2, .int .i64 a1_3] 23 (0, 0)) (bk BK445.out) hb); have n2_ := Aside0.mk (blk_below (g := gb446) (o := .cells #[.int .i64 t453, .int .i64 t454] 47 (0, 0)) (bk BK446.out) hb); have n3_ := Aside0.mk (blk_below (g := gb447) (o := .cells #[.int .i64 (wrap64 (1 + (Int.tmod (wrap64 ((Int.tmod a0 16) + 16)) 16)))] 27 (0, 0)) (bk BK447.out) hb); have n4_ := Aside0.mk (blk_below (g := gb452) (o := .cells #[.int .i64 t448, .int .i64 t449, .int .i64 t450, .int .i64 t451] 29 (0, 0)) (bk BK452.out) hb); have n5_ := Aside0.mk (blk_below (g := gb463) (o := .cells #[.int .i64 t460, .int .i64 t461] 47 (0, 0)) (bk BK463.out) hb); have n6_ := Aside0.mk (blk_below (g := gb467) (o := .cells #[.int .i64 t464, .int .i64 t465] 47 (0, 0)) (bk BK467.out) hb); have n7_ := Aside0.mk (below_step (by repeat (first | (with_reducible first | exact HB.out | apply below_alloc | apply pw_below_drewN | apply below_drew1 | refine below_set ?_ GE445.out | refine below_set ?_ GE446.out | refine below_set ?_ GE447.out | refine below_set ?_ GE452.out | refine below_set ?_ GE463.out | refine below_set ?_ GE467.out) | exact HB.out)) hb); clear HO457; clear BK445; clear BK446; clear BK447; clear BK452; clear BK463; clear BK467; clear HB; have HO457 := n0_; have BK445 := n1_; have BK446 := n2_; have BK447 := n3_; have BK452 := n4_; have BK463 := n5_; have BK467 := n6_; have HB := n7_; clear n0_ n1_ n2_ n3_ n4_ n5_ n6_ n7_; (try clear hb); (try clear hb2); (try clear hk); (try clear hi)))
    go_meet
    case rel => exact ⟨_, (t469), (by first | rfl | (simp; done) | (simp [*]; done)), H', ⟨by first | omega | exact Nat.le_refl _⟩, ⟨by (with_reducible repeat (first | refine blk_drewN ?_ _ | refine blk_drew ?_ | refine blk_alloc ?_ _)); exact BK445.out⟩, ⟨by (with_reducible repeat (first | refine blk_drewN ?_ _ | refine blk_drew ?_ | refine blk_alloc ?_ _)); exact BK446.out⟩, ⟨by (with_reducible repeat (first | refine blk_drewN ?_ _ | refine blk_drew ?_ | refine blk_alloc ?_ _)); exact BK447.out⟩, ⟨by (with_reducible repeat (first | refine blk_drewN ?_ _ | refine blk_drew ?_ | refine blk_alloc ?_ _)); exact BK452.out⟩, ⟨by (with_reducible repeat (first | refine blk_drewN ?_ _ | refine blk_drew ?_ | refine blk_alloc ?_ _)); exact BK463.out⟩, ⟨by (with_reducible repeat (first | refine blk_drewN ?_ _ | refine blk_drew ?_ | refine blk_alloc ?_ _)); exact BK467.out⟩, ⟨by repeat (first | (with_reducible first | exact HB.out | apply below_alloc | apply pw_below_drewN | apply below_drew1 | refine below_set ?_ GE445.out | refine below_set ?_ GE446.out | refine below_set ?_ GE447.out | refine below_set ?_ GE452.out | refine below_set ?_ GE463.out | refine below_set ?_ GE467.out) | exact HB.out)⟩⟩
   ·replace c78 := Bool.eq_false_iff.mpr c78
    subst c78
    have H1 : (glebelaw04_WindowHalves.j0 k t458 t462 t466 false t453 t454 (wrap64 (1 + (Int.tmod (wrap64 ((Int.tmod a0 16) + 16)) 16))) t448 t449 t450 t451 t460 t461 t464 t465) = some r := by rw [if_neg (show ¬ (false = true) by decide)] at H; exact H
    clear H
    have H := H1
    clear H1
    have H' := Aside0.mk H
    clear H
    have hnb102 := NB447_445.out
    have hnc102 := NB445_447.out
    have hnb103 := NB447_446.out
    have hnc103 := NB446_447.out
    have hnb104 := NB447_452.out
    have hnc104 := NB452_447.out
    have hnb105 := NB447_463.out
    have hnc105 := NB463_447.out
    have hnb106 := NB447_467.out
    have hnc106 := NB467_447.out
    have hcz107_0 : w70.cell? ⟨gb447, 0, none⟩ = some (.int .i64 (wrap64 (1 + (Int.tmod (wrap64 ((Int.tmod a0 16) + 16)) 16)))) := (blk_cell BK447.out 0).trans rfl
    have hfz107_0 := blk_frozen BK447.out 0
    have hnb108 := NB452_445.out
    have hnc108 := NB445_452.out
    have hnb109 := NB452_446.out
    have hnc109 := NB446_452.out
    have hnb110 := NB452_463.out
    have hnc110 := NB463_452.out
    have hnb111 := NB452_467.out
    have hnc111 := NB467_452.out
    have hcz112_0 : w70.cell? ⟨gb452, 0, none⟩ = some (.int .i64 t448) := (blk_cell BK452.out 0).trans rfl
    have hcz112_1 : w70.cell? ⟨gb452, 1, none⟩ = some (.int .i64 t449) := (blk_cell BK452.out 1).trans rfl
    have hcz112_2 : w70.cell? ⟨gb452, 2, none⟩ = some (.int .i64 t450) := (blk_cell BK452.out 2).trans rfl
    have hcz112_3 : w70.cell? ⟨gb452, 3, none⟩ = some (.int .i64 t451) := (blk_cell BK452.out 3).trans rfl
    have hfz112_0 := blk_frozen BK452.out 0
    have hfz112_1 := blk_frozen BK452.out 1
    have hfz112_2 := blk_frozen BK452.out 2
    have hfz112_3 := blk_frozen BK452.out 3
    have hnb113 := NB463_445.out
    have hnc113 := NB445_463.out
    have hnb114 := NB463_446.out
    have hnc114 := NB446_463.out
    have hnb115 := NB463_467.out
    have hnc115 := NB467_463.out
    have hcz116_0 : w70.cell? ⟨gb463, 0, none⟩ = some (.int .i64 t460) := (blk_cell BK463.out 0).trans rfl
    have hcz116_1 : w70.cell? ⟨gb463, 1, none⟩ = some (.int .i64 t461) := (blk_cell BK463.out 1).trans rfl
    have hfz116_0 := blk_frozen BK463.out 0
    have hfz116_1 := blk_frozen BK463.out 1
    go_wp2_with (first | ((with_reducible refine gate_callee (f := 25) rfl ?_); refine goesL_ (some 56) rfl rfl Try.func25 (by kernel_rfl) rfl #[.agg #[.int .i64 (wrap64 (1 + (Int.tmod (wrap64 ((Int.tmod a0 16) + 16)) 16)))], .agg #[.int .i64 t448, .int .i64 t449, .int .i64 t450, .int .i64 t451], .agg #[.int .i64 t460, .int .i64 t461]] rfl (by (try simp only [List.map_toArray, List.map_cons, List.map_nil]); first | done | rfl | (simp only [List.length_drop, List.length_take]; rfl)) ?_; (with_reducible refine (window_Covers.calls k (wrap64 (1 + (Int.tmod (wrap64 ((Int.tmod a0 16) + 16)) 16))) t448 t449 t450 t451 t460 t461 false _ A77.out).mono ?_); rintro e w117 ⟨rfl, hb⟩; refine ⟨_, rfl, ?_⟩; have n0_ := Aside0.mk (Kd.R_below (by (with_reducible repeat (first | apply Kd.R_alloc | apply Kd.R_drewN | apply Kd.R_drew)); exact (Kd.R_mono (Kd.R_far (p := ⟨gb467, 1, none⟩) (Kd.R_far (p := ⟨gb467, 0, none⟩) (Kd.R_types HO457.out BK467.out (by decide)) (fun _ hk => hk.2) (.int .i64 t464)) (fun _ hk => hk.2) (.int .i64 t465)) (fun _ h_ => h_.1))) hb); have n1_ := Aside0.mk (blk_below (g := gb445) (o := .cells #[.int .i64 a1_0, .int .i64 a1_1, .int .i64 a1_2, .int .i64 a1_3] 23 (0, 0)) (by (with_reducible repeat (first | refine blk_drewN ?_ _ | refine blk_drew ?_ | refine blk_alloc ?_ _)); refine blk_far ?_ NB445_467.out _; (with_reducible repeat (first | refine blk_drewN ?_ _ | refine blk_drew ?_ | refine blk_alloc ?_ _)); refine blk_far ?_ NB445_467.out _; (with_reducible repeat (first | refine blk_drewN ?_ _ | refine blk_drew ?_ | refine blk_alloc ?_ _)); exact BK445.out) hb); have n2_ := Aside0.mk (blk_below (g := gb446) (o := .cells #[.int .i64 t453, .int .i64 t454] 47 (0, 0)) (by (with_reducible repeat (first | refine blk_drewN ?_ _ | refine blk_drew ?_ | refine blk_alloc ?_ _)); refine blk_far ?_ NB446_467.out _; (with_reducible repeat (first | refine blk_drewN ?_ _ | refine blk_drew ?_ | refine blk_alloc ?_ _)); refine blk_far ?_ NB446_467.out _; (with_reducible repeat (first | refine blk_drewN ?_ _ | refine blk_drew ?_ | refine blk_alloc ?_ _)); exact BK446.out) hb); have n3_ := Aside0.mk (blk_below (g := gb447) (o := .cells #[.int .i64 (wrap64 (1 + (Int.tmod (wrap64 ((Int.tmod a0 16) + 16)) 16)))] 27 (0, 0)) (by (with_reducible repeat (first | refine blk_drewN ?_ _ | refine blk_drew ?_ | refine blk_alloc ?_ _)); refine blk_far ?_ NB447_467.out _; (with_reducible repeat (first | refine blk_drewN ?_ _ | refine blk_drew ?_ | refine blk_alloc ?_ _)); refine blk_far ?_ NB447_467.out _; (with_reducible repeat (first | refine blk_drewN ?_ _ | refine blk_drew ?_ | refine blk_alloc ?_ _)); exact BK447.out) hb); have n4_ := Aside0.mk (blk_below (g := gb452) (o := .cells #[.int .i64 t448, .int .i64 t449, .int .i64 t450, .int .i64 t451] 29 (0, 0)) (by (with_reducible repeat (first | refine blk_drewN ?_ _ | refine blk_drew ?_ | refine blk_alloc ?_ _)); refine blk_far ?_ NB452_467.out _; (with_reducible repeat (first | refine blk_drewN ?_ _ | refine blk_drew ?_ | refine blk_alloc ?_ _)); refine blk_far ?_ NB452_467.out _; (with_reducible repeat (first | refine blk_drewN ?_ _ | refine blk_drew ?_ | refine blk_alloc ?_ _)); exact BK452.out) hb); have n5_ := Aside0.mk (blk_below (g := gb463) (o := .cells #[.int .i64 t460, .int .i64 t461] 47 (0, 0)) (by (with_reducible repeat (first | refine blk_drewN ?_ _ | refine blk_drew ?_ | refine blk_alloc ?_ _)); refine blk_far ?_ NB463_467.out _; (with_reducible repeat (first | refine blk_drewN ?_ _ | refine blk_drew ?_ | refine blk_alloc ?_ _)); refine blk_far ?_ NB463_467.out _; (with_reducible repeat (first | refine blk_drewN ?_ _ | refine blk_drew ?_ | refine blk_alloc ?_ _)); exact BK463.out) hb); have n6_ := Aside0.mk (blk_below (g := gb467) (o := .cells #[.int .i64 t464, .int .i64 t465] 47 (0, 0)) (by (with_reducible repeat (first | refine blk_drewN ?_ _ | refine blk_drew ?_ | refine blk_alloc ?_ _)); refine blk_put (cs := #[.int .i64 t464, .int .i64 0]) ?_ 1 _ rfl; (with_reducible repeat (first | refine blk_drewN ?_ _ | refine blk_drew ?_ | refine blk_alloc ?_ _)); refine blk_put (cs := #[.int .i64 0, .int .i64 0]) ?_ 0 _ rfl; (with_reducible repeat (first | refine blk_drewN ?_ _ | refine blk_drew ?_ | refine blk_alloc ?_ _)); exact BK467.out) hb); have n7_ := Aside0.mk (below_step (by repeat (first | (with_reducible first | exact HB.out | apply below_alloc | apply pw_below_drewN | apply below_drew1 | refine below_set ?_ GE445.out | refine below_set ?_ GE446.out | refine below_set ?_ GE447.out | refine below_set ?_ GE452.out | refine below_set ?_ GE463.out | refine below_set ?_ GE467.out) | exact HB.out)) hb); clear HO457; clear BK445; clear BK446; clear BK447; clear BK452; clear BK463; clear BK467; clear HB; have HO457 := n0_; have BK445 := n1_; have BK446 := n2_; have BK447 := n3_; have BK452 := n4_; have BK463 := n5_; have BK467 := n6_; have HB := n7_; clear n0_ n1_ n2_ n3_ n4_ n5_ n6_ n7_; (try clear hb); (try clear hb2); (try clear hk); (try clear hi)))
    go_meet
    case rel => exact ⟨_, (false), (by first | rfl | (simp; done) | (simp [*]; done)), H', ⟨by first | omega | exact Nat.le_refl _⟩, ⟨by (with_reducible repeat (first | refine blk_drewN ?_ _ | refine blk_drew ?_ | refine blk_alloc ?_ _)); exact BK445.out⟩, ⟨by (with_reducible repeat (first | refine blk_drewN ?_ _ | refine blk_drew ?_ | refine blk_alloc ?_ _)); exact BK446.out⟩, ⟨by (with_reducible repeat (first | refine blk_drewN ?_ _ | refine blk_drew ?_ | refine blk_alloc ?_ _)); exact BK447.out⟩, ⟨by (with_reducible repeat (first | refine blk_drewN ?_ _ | refine blk_drew ?_ | refine blk_alloc ?_ _)); exact BK452.out⟩, ⟨by (with_reducible repeat (first | refine blk_drewN ?_ _ | refine blk_drew ?_ | refine blk_alloc ?_ _)); exact BK463.out⟩, ⟨by (with_reducible repeat (first | refine blk_drewN ?_ _ | refine blk_drew ?_ | refine blk_alloc ?_ _)); exact BK467.out⟩, ⟨by repeat (first | (with_reducible first | exact HB.out | apply below_alloc | apply pw_below_drewN | apply below_drew1 | refine below_set ?_ GE445.out | refine below_set ?_ GE446.out | refine below_set ?_ GE447.out | refine below_set ?_ GE452.out | refine below_set ?_ GE463.out | refine below_set ?_ GE467.out) | exact HB.out)⟩⟩
  case rest =>
   clear HC37
   try clear c1
   try clear c2
   try clear p2
   try clear c4
   try clear c5
   try clear c6
   try clear p6
   try clear c7
   try clear c8
   try clear c8b0
   try clear c8b1
   try clear c9
   try clear c9b0
   try clear c10
   try clear c11
   try clear c14
   try clear c15
   try clear c17
   try clear c19
   try clear c21
   try clear c22
   try clear c23
   try clear c25
   try clear c28
   try clear c29
   try clear c41
   try clear c42
   try clear c44
   try clear c48
   try clear c49
   try clear c50
   try clear c63
   try clear c64
   try clear p64
   try clear c65
   try clear c66
   try clear c71
   try clear c72
   try clear c73
   try clear c74
   try clear c75
   try clear c78
   try clear c80
   try clear c81
   try clear c82
   try clear c83
   try clear c84
   try clear c86
   try clear c87
   try clear c88
   try clear c89
   try clear c91
   try clear c92
   try clear c93
   try clear c98
   try clear c99
   try clear c102
   try clear c103
   try clear c104
   try clear c105
   try clear c106
   try clear c108
   try clear c109
   try clear c110
   try clear c111
   try clear c113
   try clear c114
   try clear c115
   try clear hcz100_0
   try clear hcz100_1
   try clear hcz107_0
   try clear hcz112_0
   try clear hcz112_1
   try clear hcz112_2
   try clear hcz112_3
   try clear hcz116_0
   try clear hcz116_1
   try clear hcz16_0
   try clear hcz18_0
   try clear hcz18_1
   try clear hcz18_2
   try clear hcz18_3
   try clear hcz24_0
   try clear hcz24_1
   try clear hcz24_2
   try clear hcz24_3
   try clear hcz25_0
   try clear hcz25_1
   try clear hcz27_0
   try clear hcz27_1
   try clear hcz28_0
   try clear hcz29_0
   try clear hcz29_1
   try clear hcz29_2
   try clear hcz29_3
   try clear hcz33_0
   try clear hcz33_1
   try clear hcz43_0
   try clear hcz45_0
   try clear hcz45_1
   try clear hcz45_2
   try clear hcz45_3
   try clear hcz51_0
   try clear hcz51_1
   try clear hcz51_2
   try clear hcz51_3
   try clear hcz52_0
   try clear hcz52_1
   try clear hcz54_0
   try clear hcz54_1
   try clear hcz55_0
   try clear hcz56_0
   try clear hcz56_1
   try clear hcz56_2
   try clear hcz56_3
   try clear hcz60_0
   try clear hcz60_1
   try clear hcz67_0
   try clear hcz67_1
   try clear hcz68_0
   try clear hcz68_1
   try clear hcz76_0
   try clear hcz76_1
   try clear hcz85_0
   try clear hcz90_0
   try clear hcz90_1
   try clear hcz90_2
   try clear hcz90_3
   try clear hcz94_0
   try clear hcz94_1
   try clear hcz96_0
   try clear hcz97_0
   try clear hcz97_1
   try clear hcz97_2
   try clear hcz97_3
   try clear hfz100_0
   try clear hfz100_1
   try clear hfz107_0
   try clear hfz112_0
   try clear hfz112_1
   try clear hfz112_2
   try clear hfz112_3
   try clear hfz116_0
   try clear hfz116_1
   try clear hfz16_0
   try clear hfz18_0
   try clear hfz18_1
   try clear hfz18_2
   try clear hfz18_3
   try clear hfz24_0
   try clear hfz24_1
   try clear hfz24_2
   try clear hfz24_3
   try clear hfz25_0
   try clear hfz25_1
   try clear hfz27_0
   try clear hfz27_1
   try clear hfz28_0
   try clear hfz29_0
   try clear hfz29_1
   try clear hfz29_2
   try clear hfz29_3
   try clear hfz33_0
   try clear hfz33_1
   try clear hfz43_0
   try clear hfz45_0
   try clear hfz45_1
   try clear hfz45_2
   try clear hfz45_3
   try clear hfz51_0
   try clear hfz51_1
   try clear hfz51_2
   try clear hfz51_3
   try clear hfz52_0
   try clear hfz52_1
   try clear hfz54_0
   try clear hfz54_1
   try clear hfz55_0
   try clear hfz56_0
   try clear hfz56_1
   try clear hfz56_2
   try clear hfz56_3
   try clear hfz60_0
   try clear hfz60_1
   try clear hfz67_0
   try clear hfz67_1
   try clear hfz68_0
   try clear hfz68_1
   try clear hfz76_0
   try clear hfz76_1
   try clear hfz85_0
   try clear hfz90_0
   try clear hfz90_1
   try clear hfz90_2
   try clear hfz90_3
   try clear hfz94_0
   try clear hfz94_1
   try clear hfz96_0
   try clear hfz97_0
   try clear hfz97_1
   try clear hfz97_2
   try clear hfz97_3
   obtain ⟨kq, x14_36, rfl, HA, HJ36, BK445, BK446, BK447, BK452, BK463, BK467, HB⟩ := hcut
   cases kq with
   | zero => exact absurd HA.out (by simp [glebelaw04_WindowHalves.j0])
   | succ kj36 =>
    have H := HA.out
    clear HA
    simp only [glebelaw04_WindowHalves.j0] at H
    replace H := Option.bind_eq_some_iff.mp H
    obtain ⟨t470, A1180, H⟩ := H
    replace H : ((glebelaw04_num.f t466).bind fun t471 => (if (wrap64 (t470 + t471)) = 0 then ((window_Cut.f kj36 (wrap64 (1 + (Int.tmod (wrap64 ((Int.tmod a0 16) + 16)) 16))) t448 t449 t450 t451 t460 t461).bind fun t472 => ((glebelaw04_sum.f kj36 t472).bind fun t475 => ((window_Cut.f kj36 (wrap64 (1 + (Int.tmod (wrap64 ((Int.tmod a0 16) + 16)) 16))) t448 t449 t450 t451 t464 t465).bind fun t476 => ((glebelaw04_sum.f kj36 t476).bind fun t479 => (if (wrap64 (t475 + t479)) = t458 then ((window_Covers.f kj36 (wrap64 (1 + (Int.tmod (wrap64 ((Int.tmod a0 16) + 16)) 16))) t448 t449 t450 t451 t453 t454).bind fun t480 => (if (t480 == x14_36) = true then ((glebelaw04_knows.f kj36).bind fun t481 => (some t481)) else (none))) else (none)))))) else (none))) = some r := H
    have A118 := Aside0.mk A1180
    clear A1180
    replace H := Option.bind_eq_some_iff.mp H
    obtain ⟨t471, A1190, H⟩ := H
    replace H : (if (wrap64 (t470 + t471)) = 0 then ((window_Cut.f kj36 (wrap64 (1 + (Int.tmod (wrap64 ((Int.tmod a0 16) + 16)) 16))) t448 t449 t450 t451 t460 t461).bind fun t472 => ((glebelaw04_sum.f kj36 t472).bind fun t475 => ((window_Cut.f kj36 (wrap64 (1 + (Int.tmod (wrap64 ((Int.tmod a0 16) + 16)) 16))) t448 t449 t450 t451 t464 t465).bind fun t476 => ((glebelaw04_sum.f kj36 t476).bind fun t479 => (if (wrap64 (t475 + t479)) = t458 then ((window_Covers.f kj36 (wrap64 (1 + (Int.tmod (wrap64 ((Int.tmod a0 16) + 16)) 16))) t448 t449 t450 t451 t453 t454).bind fun t480 => (if (t480 == x14_36) = true then ((glebelaw04_knows.f kj36).bind fun t481 => (some t481)) else (none))) else (none)))))) else (none)) = some r := H
    have A119 := Aside0.mk A1190
    clear A1190
    by_cases c120 : (wrap64 (t470 + t471)) = 0
    ·rw [if_pos c120] at H
     have c120b0 : ((wrap64 (t470 + t471)) == 0) = true := beq_iff_eq.mpr c120
     have c120b1 : ((wrap64 (t470 + t471)) != 0) = false := bne_eq_false_iff_eq.mpr c120
     clear c120
     replace H := Option.bind_eq_some_iff.mp H
     obtain ⟨t472, A1210, H⟩ := H
     replace H : ((glebelaw04_sum.f kj36 t472).bind fun t475 => ((window_Cut.f kj36 (wrap64 (1 + (Int.tmod (wrap64 ((Int.tmod a0 16) + 16)) 16))) t448 t449 t450 t451 t464 t465).bind fun t476 => ((glebelaw04_sum.f kj36 t476).bind fun t479 => (if (wrap64 (t475 + t479)) = t458 then ((window_Covers.f kj36 (wrap64 (1 + (Int.tmod (wrap64 ((Int.tmod a0 16) + 16)) 16))) t448 t449 t450 t451 t453 t454).bind fun t480 => (if (t480 == x14_36) = true then ((glebelaw04_knows.f kj36).bind fun t481 => (some t481)) else (none))) else (none))))) = some r := H
     have A121 := Aside0.mk A1210
     clear A1210
     replace H := Option.bind_eq_some_iff.mp H
     obtain ⟨t475, A1220, H⟩ := H
     replace H : ((window_Cut.f kj36 (wrap64 (1 + (Int.tmod (wrap64 ((Int.tmod a0 16) + 16)) 16))) t448 t449 t450 t451 t464 t465).bind fun t476 => ((glebelaw04_sum.f kj36 t476).bind fun t479 => (if (wrap64 (t475 + t479)) = t458 then ((window_Covers.f kj36 (wrap64 (1 + (Int.tmod (wrap64 ((Int.tmod a0 16) + 16)) 16))) t448 t449 t450 t451 t453 t454).bind fun t480 => (if (t480 == x14_36) = true then ((glebelaw04_knows.f kj36).bind fun t481 => (some t481)) else (none))) else (none)))) = some r := H
     have A122 := Aside0.mk A1220
     clear A1220
     replace H := Option.bind_eq_some_iff.mp H
     obtain ⟨t476, A1230, H⟩ := H
     replace H : ((glebelaw04_sum.f kj36 t476).bind fun t479 => (if (wrap64 (t475 + t479)) = t458 then ((window_Covers.f kj36 (wrap64 (1 + (Int.tmod (wrap64 ((Int.tmod a0 16) + 16)) 16))) t448 t449 t450 t451 t453 t454).bind fun t480 => (if (t480 == x14_36) = true then ((glebelaw04_knows.f kj36).bind fun t481 => (some t481)) else (none))) else (none))) = some r := H
     have A123 := Aside0.mk A1230
     clear A1230
     replace H := Option.bind_eq_some_iff.mp H
     obtain ⟨t479, A1240, H⟩ := H
     replace H : (if (wrap64 (t475 + t479)) = t458 then ((window_Covers.f kj36 (wrap64 (1 + (Int.tmod (wrap64 ((Int.tmod a0 16) + 16)) 16))) t448 t449 t450 t451 t453 t454).bind fun t480 => (if (t480 == x14_36) = true then ((glebelaw04_knows.f kj36).bind fun t481 => (some t481)) else (none))) else (none)) = some r := H
     have A124 := Aside0.mk A1240
     clear A1240
     by_cases c125 : (wrap64 (t475 + t479)) = t458
     ·rw [if_pos c125] at H
      have c125b0 : ((wrap64 (t475 + t479)) == t458) = true := beq_iff_eq.mpr c125
      have c125b1 : ((wrap64 (t475 + t479)) != t458) = false := bne_eq_false_iff_eq.mpr c125
      clear c125
      replace H := Option.bind_eq_some_iff.mp H
      obtain ⟨t480, A1260, H⟩ := H
      replace H : (if (t480 == x14_36) = true then ((glebelaw04_knows.f kj36).bind fun t481 => (some t481)) else (none)) = some r := H
      have A126 := Aside0.mk A1260
      clear A1260
      by_cases c127 : (t480 == x14_36) = true
      ·rw [if_pos c127] at H
       have c127b0 : (t480 == x14_36) = true := c127
       (try (have c127b1 : decide (t480 = x14_36) = true := by simpa using c127))
       (try (have c127b2 : (t480 == x14_36) = true := by simpa using c127))
       clear c127
       replace H := Option.bind_eq_some_iff.mp H
       obtain ⟨t481, A1280, H⟩ := H
       replace H : (some t481) = some r := H
       have A128 := Aside0.mk A1280
       clear A1280
       obtain rfl := Option.some.inj H
       try go_wp2
       have n0_ := Aside0.mk (blk_drew BK445.out)
       have n1_ := Aside0.mk (blk_drew BK446.out)
       have n2_ := Aside0.mk (blk_drew BK447.out)
       have n3_ := Aside0.mk (blk_drew BK452.out)
       have n4_ := Aside0.mk (blk_drew BK463.out)
       have n5_ := Aside0.mk (blk_drew BK467.out)
       have n6_ := Aside0.mk (below_drew1 HB.out)
       clear BK445
       clear BK446
       clear BK447
       clear BK452
       clear BK463
       clear BK467
       clear HB
       have BK445 := n0_
       have BK446 := n1_
       have BK447 := n2_
       have BK452 := n3_
       have BK463 := n4_
       have BK467 := n5_
       have HB := n6_
       clear n0_ n1_ n2_ n3_ n4_ n5_ n6_
       refine start_ (n := 33) (S := fun w' => w'.cell? ⟨gb447, 0, none⟩ = some (.int .i64 (wrap64 (1 + (Int.tmod (wrap64 ((Int.tmod a0 16) + 16)) 16)))) ∧ w'.cell? ⟨gb452, 0, none⟩ = some (.int .i64 t448) ∧ w'.cell? ⟨gb452, 1, none⟩ = some (.int .i64 t449) ∧ w'.cell? ⟨gb452, 2, none⟩ = some (.int .i64 t450) ∧ w'.cell? ⟨gb452, 3, none⟩ = some (.int .i64 t451) ∧ w'.cell? ⟨gb463, 0, none⟩ = some (.int .i64 t460) ∧ w'.cell? ⟨gb463, 1, none⟩ = some (.int .i64 t461) ∧ w'.cell? ⟨gb467, 0, none⟩ = some (.int .i64 t464) ∧ w'.cell? ⟨gb467, 1, none⟩ = some (.int .i64 t465) ∧ w'.cell? ⟨gb446, 0, none⟩ = some (.int .i64 t453) ∧ w'.cell? ⟨gb446, 1, none⟩ = some (.int .i64 t454)) (ds := []) #[false, false, false, false, false, false, false, false, false, false, false, false, false, false, false, false, false, false, false, false, false, false, false, false, false, false, false, false, false, false, false, false, false] (by kernel_rfl) rfl rfl ⟨(blk_cell BK447.out 0).trans rfl, (blk_cell BK452.out 0).trans rfl, (blk_cell BK452.out 1).trans rfl, (blk_cell BK452.out 2).trans rfl, (blk_cell BK452.out 3).trans rfl, (blk_cell BK463.out 0).trans rfl, (blk_cell BK463.out 1).trans rfl, (blk_cell BK467.out 0).trans rfl, (blk_cell BK467.out 1).trans rfl, (blk_cell BK446.out 0).trans rfl, (blk_cell BK446.out 1).trans rfl⟩ (fun hHeld => ?_); refine with_tabW glebelaw04_WindowHalves.tab11 glebelaw04_WindowHalves.bits11 (fun HT_ HW_ => ?_)
       generalize wc.drew = w129 at BK445 BK446 BK447 BK452 BK463 BK467 HB hHeld ⊢
       refine pure_ (i := 0) (N := some 63) (v := ?_) (a' := ?_) #[true, false, false, false, false, false, false, false, false, false, false, false, false, false, false, false, false, false, false, false, false, false, false, false, false, false, false, false, false, false, false, false, false] rfl rfl (any_of HT_.out (by kernel_rfl)) (fun _ _ _ h => h) (Or.inl ⟨by rfl, ?_⟩) ?_ ?_
       rotate_left
       ·intro w'
        go_simp
        with_reducible rfl
       rotate_left
       ·simp only [Act.put, List.setIfInBounds_toArray, List.set_cons_zero, List.set_cons_succ, i64_w, i32_w]
        rfl
       refine pure_ (i := 2) (N := some 65) (v := ?_) (a' := ?_) #[true, false, true, false, false, false, false, false, false, false, false, false, false, false, false, false, false, false, false, false, false, false, false, false, false, false, false, false, false, false, false, false, false] rfl rfl (any_of HT_.out (by kernel_rfl)) (fun _ _ _ h => h) (Or.inl ⟨by rfl, ?_⟩) ?_ ?_
       rotate_left
       ·intro w'
        go_simp
        with_reducible rfl
       rotate_left
       ·simp only [Act.put, List.setIfInBounds_toArray, List.set_cons_zero, List.set_cons_succ, i64_w, i32_w]
        rfl
       refine one_ (i := 1) (N := some 64) #[true, true, true, false, false, false, false, false, false, false, false, false, false, false, false, false, false, false, false, false, false, false, false, false, false, false, false, false, false, false, false, false, false] rfl rfl (one_of HT_.out (by kernel_rfl)) (by decide) (fun K hK => ?_)
       refine goes_ Try.func18 (by kernel_rfl) rfl #[.int .i64 t462] (by rfl) rfl rfl (by (try simp only [List.map_toArray, List.map_cons, List.map_nil]); first | done | rfl | (simp only [List.length_drop, List.length_take]; rfl)) ?_
       with_reducible refine (glebelaw04_num.calls t462 t470 _ A118.out).mono ?_
       rintro e w' ⟨rfl, ⟨nd, rfl⟩⟩
       refine ⟨_, rfl, ?_⟩
       refine hK.out _ _ ⟨(blk_cell BK447.out 0).trans rfl, (blk_cell BK452.out 0).trans rfl, (blk_cell BK452.out 1).trans rfl, (blk_cell BK452.out 2).trans rfl, (blk_cell BK452.out 3).trans rfl, (blk_cell BK463.out 0).trans rfl, (blk_cell BK463.out 1).trans rfl, (blk_cell BK467.out 0).trans rfl, (blk_cell BK467.out 1).trans rfl, (blk_cell BK446.out 0).trans rfl, (blk_cell BK446.out 1).trans rfl⟩ (fun hHeld => ?_)
       clear hK K
       refine norm_ (a' := ?_) ?_ ?_
       rotate_left
       ·show Act.put _ (some 64) _ = _
        simp only [Act.put, List.setIfInBounds_toArray, List.set_cons_zero, List.set_cons_succ, i64_w, i32_w]
        rfl
       refine one_ (i := 3) (N := some 66) #[true, true, true, true, false, false, false, false, false, false, false, false, false, false, false, false, false, false, false, false, false, false, false, false, false, false, false, false, false, false, false, false, false] rfl rfl (one_of HT_.out (by kernel_rfl)) (by decide) (fun K hK => ?_)
       refine goes_ Try.func18 (by kernel_rfl) rfl #[.int .i64 t466] (by rfl) rfl rfl (by (try simp only [List.map_toArray, List.map_cons, List.map_nil]); first | done | rfl | (simp only [List.length_drop, List.length_take]; rfl)) ?_
       with_reducible refine (glebelaw04_num.calls t466 t471 _ A119.out).mono ?_
       rintro e w' ⟨rfl, ⟨nd, rfl⟩⟩
       refine ⟨_, rfl, ?_⟩
       refine hK.out _ _ ⟨(blk_cell BK447.out 0).trans rfl, (blk_cell BK452.out 0).trans rfl, (blk_cell BK452.out 1).trans rfl, (blk_cell BK452.out 2).trans rfl, (blk_cell BK452.out 3).trans rfl, (blk_cell BK463.out 0).trans rfl, (blk_cell BK463.out 1).trans rfl, (blk_cell BK467.out 0).trans rfl, (blk_cell BK467.out 1).trans rfl, (blk_cell BK446.out 0).trans rfl, (blk_cell BK446.out 1).trans rfl⟩ (fun hHeld => ?_)
       clear hK K
       refine norm_ (a' := ?_) ?_ ?_
       rotate_left
       ·show Act.put _ (some 66) _ = _
        simp only [Act.put, List.setIfInBounds_toArray, List.set_cons_zero, List.set_cons_succ, i64_w, i32_w]
        rfl
       refine pure_ (i := 4) (N := some 67) (v := ?_) (a' := ?_) #[true, true, true, true, true, false, false, false, false, false, false, false, false, false, false, false, false, false, false, false, false, false, false, false, false, false, false, false, false, false, false, false, false] rfl rfl (any_of HT_.out (by kernel_rfl)) (fun _ _ _ h => h) (Or.inl ⟨by rfl, ?_⟩) ?_ ?_
       rotate_left
       ·intro w'
        go_simp
        with_reducible rfl
       rotate_left
       ·simp only [Act.put, List.setIfInBounds_toArray, List.set_cons_zero, List.set_cons_succ, i64_w, i32_w]
        rfl
       refine pure_ (i := 5) (N := some 68) (v := ?_) (a' := ?_) #[true, true, true, true, true, true, false, false, false, false, false, false, false, false, false, false, false, false, false, false, false, false, false, false, false, false, false, false, false, false, false, false, false] rfl rfl (any_of HT_.out (by kernel_rfl)) (fun _ _ _ h => h) (Or.inl ⟨by rfl, ?_⟩) ?_ ?_
       rotate_left
       ·intro w'
        go_simp
        with_reducible rfl
       rotate_left
       ·simp only [Act.put, List.setIfInBounds_toArray, List.set_cons_zero, List.set_cons_succ, i64_w, i32_w]
        rfl
       refine pure_ (i := 6) (N := some 69) (v := ?_) (a' := ?_) #[true, true, true, true, true, true, true, false, false, false, false, false, false, false, false, false, false, false, false, false, false, false, false, false, false, false, false, false, false, false, false, false, false] rfl rfl (any_of HT_.out (by kernel_rfl)) (fun _ _ _ h => h) (Or.inl ⟨by rfl, ?_⟩) ?_ ?_
       rotate_left
       ·intro w'
        go_simp
        with_reducible rfl
       rotate_left
       ·simp only [Act.put, List.setIfInBounds_toArray, List.set_cons_zero, List.set_cons_succ, i64_w, i32_w]
        rfl
       refine pure_ (i := 18) (N := some 81) (v := ?_) (a' := ?_) #[true, true, true, true, true, true, true, false, false, false, false, false, false, false, false, false, false, false, true, false, false, false, false, false, false, false, false, false, false, false, false, false, false] rfl rfl (any_of HT_.out (by kernel_rfl)) (fun _ _ _ h => h) (Or.inl ⟨by rfl, ?_⟩) ?_ ?_
       rotate_left
       ·intro w'
        go_simp
        with_reducible rfl
       rotate_left
       ·simp only [Act.put, List.setIfInBounds_toArray, List.set_cons_zero, List.set_cons_succ, i64_w, i32_w]
        rfl
       refine take_ (i := 7) (N := some 70) (v := ?_) (a' := ?_) #[true, true, true, true, true, true, true, true, false, false, false, false, false, false, false, false, false, false, true, false, false, false, false, false, false, false, false, false, false, false, false, false, false] rfl rfl (take_ofW HT_.out HW_.out (by kernel_rfl)) (fun _ _ _ h => h) (Or.inl ⟨by rfl, ?_⟩) hHeld ?_ ?_
       rotate_left
       ·rintro w' ⟨s0, s1, s2, s3, s4, s5, s6, s7, s8, s9, s10⟩
        go_simp
        with_reducible rfl
       rotate_left
       ·simp only [Act.put, List.setIfInBounds_toArray, List.set_cons_zero, List.set_cons_succ, i64_w, i32_w]
        rfl
       refine take_ (i := 8) (N := some 71) (v := ?_) (a' := ?_) #[true, true, true, true, true, true, true, true, true, false, false, false, false, false, false, false, false, false, true, false, false, false, false, false, false, false, false, false, false, false, false, false, false] rfl rfl (take_ofW HT_.out HW_.out (by kernel_rfl)) (fun _ _ _ h => h) (Or.inl ⟨by rfl, ?_⟩) hHeld ?_ ?_
       rotate_left
       ·rintro w' ⟨s0, s1, s2, s3, s4, s5, s6, s7, s8, s9, s10⟩
        go_simp
        with_reducible rfl
       rotate_left
       ·simp only [Act.put, List.setIfInBounds_toArray, List.set_cons_zero, List.set_cons_succ, i64_w, i32_w]
        rfl
       refine take_ (i := 9) (N := some 72) (v := ?_) (a' := ?_) #[true, true, true, true, true, true, true, true, true, true, false, false, false, false, false, false, false, false, true, false, false, false, false, false, false, false, false, false, false, false, false, false, false] rfl rfl (take_ofW HT_.out HW_.out (by kernel_rfl)) (fun _ _ _ h => h) (Or.inl ⟨by rfl, ?_⟩) hHeld ?_ ?_
       rotate_left
       ·rintro w' ⟨s0, s1, s2, s3, s4, s5, s6, s7, s8, s9, s10⟩
        go_simp
        with_reducible rfl
       rotate_left
       ·simp only [Act.put, List.setIfInBounds_toArray, List.set_cons_zero, List.set_cons_succ, i64_w, i32_w]
        rfl
       refine take_ (i := 12) (N := some 75) (v := ?_) (a' := ?_) #[true, true, true, true, true, true, true, true, true, true, false, false, true, false, false, false, false, false, true, false, false, false, false, false, false, false, false, false, false, false, false, false, false] rfl rfl (take_ofW HT_.out HW_.out (by kernel_rfl)) (fun _ _ _ h => h) (Or.inl ⟨by rfl, ?_⟩) hHeld ?_ ?_
       rotate_left
       ·rintro w' ⟨s0, s1, s2, s3, s4, s5, s6, s7, s8, s9, s10⟩
        go_simp
        with_reducible rfl
       rotate_left
       ·simp only [Act.put, List.setIfInBounds_toArray, List.set_cons_zero, List.set_cons_succ, i64_w, i32_w]
        rfl
       refine take_ (i := 13) (N := some 76) (v := ?_) (a' := ?_) #[true, true, true, true, true, true, true, true, true, true, false, false, true, true, false, false, false, false, true, false, false, false, false, false, false, false, false, false, false, false, false, false, false] rfl rfl (take_ofW HT_.out HW_.out (by kernel_rfl)) (fun _ _ _ h => h) (Or.inl ⟨by rfl, ?_⟩) hHeld ?_ ?_
       rotate_left
       ·rintro w' ⟨s0, s1, s2, s3, s4, s5, s6, s7, s8, s9, s10⟩
        go_simp
        with_reducible rfl
       rotate_left
       ·simp only [Act.put, List.setIfInBounds_toArray, List.set_cons_zero, List.set_cons_succ, i64_w, i32_w]
        rfl
       refine take_ (i := 14) (N := some 77) (v := ?_) (a' := ?_) #[true, true, true, true, true, true, true, true, true, true, false, false, true, true, true, false, false, false, true, false, false, false, false, false, false, false, false, false, false, false, false, false, false] rfl rfl (take_ofW HT_.out HW_.out (by kernel_rfl)) (fun _ _ _ h => h) (Or.inl ⟨by rfl, ?_⟩) hHeld ?_ ?_
       rotate_left
       ·rintro w' ⟨s0, s1, s2, s3, s4, s5, s6, s7, s8, s9, s10⟩
        go_simp
        with_reducible rfl
       rotate_left
       ·simp only [Act.put, List.setIfInBounds_toArray, List.set_cons_zero, List.set_cons_succ, i64_w, i32_w]
        rfl
       refine one_ (i := 10) (N := some 73) #[true, true, true, true, true, true, true, true, true, true, true, false, true, true, true, false, false, false, true, false, false, false, false, false, false, false, false, false, false, false, false, false, false] rfl rfl (one_of HT_.out (by kernel_rfl)) (by decide) (fun K hK => ?_)
       refine goes_ Try.func23 (by kernel_rfl) rfl #[.agg #[.int .i64 (wrap64 (1 + (Int.tmod (wrap64 ((Int.tmod a0 16) + 16)) 16)))], .agg #[.int .i64 t448, .int .i64 t449, .int .i64 t450, .int .i64 t451], .agg #[.int .i64 t460, .int .i64 t461]] (by rfl) rfl rfl (by (try simp only [List.map_toArray, List.map_cons, List.map_nil]); first | done | rfl | (simp only [List.length_drop, List.length_take]; rfl)) ?_
       with_reducible refine (window_Cut.calls kj36 (wrap64 (1 + (Int.tmod (wrap64 ((Int.tmod a0 16) + 16)) 16))) t448 t449 t450 t451 t460 t461 t472 _ A121.out).mono ?_
       rintro e w130 ⟨v473, rfl, ho0, hb⟩
       refine ⟨_, rfl, ?_⟩
       have n0_ := Aside0.mk (Kd.R_lower (Kd.R_newB ho0 (g := gb452) (o := .cells #[.int .i64 t448, .int .i64 t449, .int .i64 t450, .int .i64 t451] 29 (0, 0)) (bk BK452.out)) (below_size (by repeat (first | (with_reducible first | exact HB.out | apply below_alloc | apply pw_below_drewN | apply below_drew1 | refine below_set ?_ GE445.out | refine below_set ?_ GE446.out | refine below_set ?_ GE447.out | refine below_set ?_ GE452.out | refine below_set ?_ GE463.out | refine below_set ?_ GE467.out) | exact HB.out))))
       have n1_ := Aside0.mk (blk_below (g := gb445) (o := .cells #[.int .i64 a1_0, .int .i64 a1_1, .int .i64 a1_2, .int .i64 a1_3] 23 (0, 0)) (bk BK445.out) hb)
       have n2_ := Aside0.mk (blk_below (g := gb446) (o := .cells #[.int .i64 t453, .int .i64 t454] 47 (0, 0)) (bk BK446.out) hb)
       have n3_ := Aside0.mk (blk_below (g := gb447) (o := .cells #[.int .i64 (wrap64 (1 + (Int.tmod (wrap64 ((Int.tmod a0 16) + 16)) 16)))] 27 (0, 0)) (bk BK447.out) hb)
       have n4_ := Aside0.mk (blk_below (g := gb452) (o := .cells #[.int .i64 t448, .int .i64 t449, .int .i64 t450, .int .i64 t451] 29 (0, 0)) (bk BK452.out) hb)
       have n5_ := Aside0.mk (blk_below (g := gb463) (o := .cells #[.int .i64 t460, .int .i64 t461] 47 (0, 0)) (bk BK463.out) hb)
       have n6_ := Aside0.mk (blk_below (g := gb467) (o := .cells #[.int .i64 t464, .int .i64 t465] 47 (0, 0)) (bk BK467.out) hb)
       have n7_ := Aside0.mk (below_step (by repeat (first | (with_reducible first | exact HB.out | apply below_alloc | apply pw_below_drewN | apply below_drew1 | refine below_set ?_ GE445.out | refine below_set ?_ GE446.out | refine below_set ?_ GE447.out | refine below_set ?_ GE452.out | refine below_set ?_ GE463.out | refine below_set ?_ GE467.out) | exact HB.out)) hb)
       clear BK445
       clear BK446
       clear BK447
       clear BK452
       clear BK463
       clear BK467
       clear HB
       have HO474 := n0_
       have BK445 := n1_
       have BK446 := n2_
       have BK447 := n3_
       have BK452 := n4_
       have BK463 := n5_
       have BK467 := n6_
       have HB := n7_
       clear n0_ n1_ n2_ n3_ n4_ n5_ n6_ n7_
       (try clear hb)
       (try clear hb2)
       (try clear hk)
       (try clear hi)
       (try clear ho0)
       obtain ⟨Ao131, co131, eo131⟩ := Kd.R_slice HO474.out
       (first | subst eo131 | (injection eo131 with f1_ f2_ f3_; have f4_ := f1_.symm; have f5_ := f3_.symm; clear f1_ f2_ f3_; subst f4_; subst f5_))
       refine hK.out _ _ ⟨(blk_cell BK447.out 0).trans rfl, (blk_cell BK452.out 0).trans rfl, (blk_cell BK452.out 1).trans rfl, (blk_cell BK452.out 2).trans rfl, (blk_cell BK452.out 3).trans rfl, (blk_cell BK463.out 0).trans rfl, (blk_cell BK463.out 1).trans rfl, (blk_cell BK467.out 0).trans rfl, (blk_cell BK467.out 1).trans rfl, (blk_cell BK446.out 0).trans rfl, (blk_cell BK446.out 1).trans rfl⟩ (fun hHeld => ?_)
       clear hK K
       refine norm_ (a' := ?_) ?_ ?_
       rotate_left
       ·show Act.put _ (some 73) _ = _
        simp only [Act.put, List.setIfInBounds_toArray, List.set_cons_zero, List.set_cons_succ, i64_w, i32_w]
        rfl
       refine one_ (i := 11) (N := some 74) #[true, true, true, true, true, true, true, true, true, true, true, true, true, true, true, false, false, false, true, false, false, false, false, false, false, false, false, false, false, false, false, false, false] rfl rfl (one_of HT_.out (by kernel_rfl)) (by decide) (fun K hK => ?_)
       refine goes_ Try.func19 (by kernel_rfl) rfl #[.slice Ao131 t472.length co131] (by rfl) rfl rfl (by (try simp only [List.map_toArray, List.map_cons, List.map_nil]); first | done | rfl | (simp only [List.length_drop, List.length_take]; rfl)) ?_
       with_reducible refine (glebelaw04_sum.calls kj36 _ _ t472 t475 _ ?side1 ?side2 A122.out).mono ?_
       (case side1 => repeat (first | exact (Kd.R_reads' HO474.out).2.2 | (with_reducible refine Kd.C_alloc ?_ _) | (with_reducible refine Kd.C_drewN ?_ _) | (with_reducible refine Kd.C_drew ?_)))
       (case side2 => exact (Kd.R_reads' HO474.out).2.1)
       rintro e w132 ⟨rfl, hb⟩
       refine ⟨_, rfl, ?_⟩
       have n0_ := Aside0.mk (Kd.R_below (br HO474.out) hb)
       have n1_ := Aside0.mk (blk_below (g := gb445) (o := .cells #[.int .i64 a1_0, .int .i64 a1_1, .int .i64 a1_2, .int .i64 a1_3] 23 (0, 0)) (bk BK445.out) hb)
       have n2_ := Aside0.mk (blk_below (g := gb446) (o := .cells #[.int .i64 t453, .int .i64 t454] 47 (0, 0)) (bk BK446.out) hb)
       have n3_ := Aside0.mk (blk_below (g := gb447) (o := .cells #[.int .i64 (wrap64 (1 + (Int.tmod (wrap64 ((Int.tmod a0 16) + 16)) 16)))] 27 (0, 0)) (bk BK447.out) hb)
       have n4_ := Aside0.mk (blk_below (g := gb452) (o := .cells #[.int .i64 t448, .int .i64 t449, .int .i64 t450, .int .i64 t451] 29 (0, 0)) (bk BK452.out) hb)
       have n5_ := Aside0.mk (blk_below (g := gb463) (o := .cells #[.int .i64 t460, .int .i64 t461] 47 (0, 0)) (bk BK463.out) hb)
       have n6_ := Aside0.mk (blk_below (g := gb467) (o := .cells #[.int .i64 t464, .int .i64 t465] 47 (0, 0)) (bk BK467.out) hb)
       have n7_ := Aside0.mk (below_step (by repeat (first | (with_reducible first | exact HB.out | apply below_alloc | apply pw_below_drewN | apply below_drew1 | refine below_set ?_ GE445.out | refine below_set ?_ GE446.out | refine below_set ?_ GE447.out | refine below_set ?_ GE452.out | refine below_set ?_ GE463.out | refine below_set ?_ GE467.out) | exact HB.out)) hb)
       clear HO474
       clear BK445
       clear BK446
       clear BK447
       clear BK452
       clear BK463
       clear BK467
       clear HB
       have HO474 := n0_
       have BK445 := n1_
       have BK446 := n2_
       have BK447 := n3_
       have BK452 := n4_
       have BK463 := n5_
       have BK467 := n6_
       have HB := n7_
       clear n0_ n1_ n2_ n3_ n4_ n5_ n6_ n7_
       (try clear hb)
       (try clear hb2)
       (try clear hk)
       (try clear hi)
       refine hK.out _ _ ⟨(blk_cell BK447.out 0).trans rfl, (blk_cell BK452.out 0).trans rfl, (blk_cell BK452.out 1).trans rfl, (blk_cell BK452.out 2).trans rfl, (blk_cell BK452.out 3).trans rfl, (blk_cell BK463.out 0).trans rfl, (blk_cell BK463.out 1).trans rfl, (blk_cell BK467.out 0).trans rfl, (blk_cell BK467.out 1).trans rfl, (blk_cell BK446.out 0).trans rfl, (blk_cell BK446.out 1).trans rfl⟩ (fun hHeld => ?_)
       clear hK K
       refine norm_ (a' := ?_) ?_ ?_
       rotate_left
       ·show Act.put _ (some 74) _ = _
        simp only [Act.put, List.setIfInBounds_toArray, List.set_cons_zero, List.set_cons_succ, i64_w, i32_w]
        rfl
       refine one_ (i := 15) (N := some 78) #[true, true, true, true, true, true, true, true, true, true, true, true, true, true, true, true, false, false, true, false, false, false, false, false, false, false, false, false, false, false, false, false, false] rfl rfl (one_of HT_.out (by kernel_rfl)) (by decide) (fun K hK => ?_)
       refine goes_ Try.func23 (by kernel_rfl) rfl #[.agg #[.int .i64 (wrap64 (1 + (Int.tmod (wrap64 ((Int.tmod a0 16) + 16)) 16)))], .agg #[.int .i64 t448, .int .i64 t449, .int .i64 t450, .int .i64 t451], .agg #[.int .i64 t464, .int .i64 t465]] (by rfl) rfl rfl (by (try simp only [List.map_toArray, List.map_cons, List.map_nil]); first | done | rfl | (simp only [List.length_drop, List.length_take]; rfl)) ?_
       with_reducible refine (window_Cut.calls kj36 (wrap64 (1 + (Int.tmod (wrap64 ((Int.tmod a0 16) + 16)) 16))) t448 t449 t450 t451 t464 t465 t476 _ A123.out).mono ?_
       rintro e w133 ⟨v477, rfl, ho0, hb⟩
       refine ⟨_, rfl, ?_⟩
       have n0_ := Aside0.mk (Kd.R_elder' (br HO474.out) (Kd.R_base ho0) hb)
       have n1_ := Aside0.mk (Kd.R_lower (Kd.R_newB (Kd.R_new' ho0 (Kd.R_lt (br HO474.out))) (g := gb452) (o := .cells #[.int .i64 t448, .int .i64 t449, .int .i64 t450, .int .i64 t451] 29 (0, 0)) (bk BK452.out)) (below_size (by repeat (first | (with_reducible first | exact HB.out | apply below_alloc | apply pw_below_drewN | apply below_drew1 | refine below_set ?_ GE445.out | refine below_set ?_ GE446.out | refine below_set ?_ GE447.out | refine below_set ?_ GE452.out | refine below_set ?_ GE463.out | refine below_set ?_ GE467.out) | exact HB.out))))
       have n2_ := Aside0.mk (blk_below (g := gb445) (o := .cells #[.int .i64 a1_0, .int .i64 a1_1, .int .i64 a1_2, .int .i64 a1_3] 23 (0, 0)) (bk BK445.out) hb)
       have n3_ := Aside0.mk (blk_below (g := gb446) (o := .cells #[.int .i64 t453, .int .i64 t454] 47 (0, 0)) (bk BK446.out) hb)
       have n4_ := Aside0.mk (blk_below (g := gb447) (o := .cells #[.int .i64 (wrap64 (1 + (Int.tmod (wrap64 ((Int.tmod a0 16) + 16)) 16)))] 27 (0, 0)) (bk BK447.out) hb)
       have n5_ := Aside0.mk (blk_below (g := gb452) (o := .cells #[.int .i64 t448, .int .i64 t449, .int .i64 t450, .int .i64 t451] 29 (0, 0)) (bk BK452.out) hb)
       have n6_ := Aside0.mk (blk_below (g := gb463) (o := .cells #[.int .i64 t460, .int .i64 t461] 47 (0, 0)) (bk BK463.out) hb)
       have n7_ := Aside0.mk (blk_below (g := gb467) (o := .cells #[.int .i64 t464, .int .i64 t465] 47 (0, 0)) (bk BK467.out) hb)
       have n8_ := Aside0.mk (below_step (by repeat (first | (with_reducible first | exact HB.out | apply below_alloc | apply pw_below_drewN | apply below_drew1 | refine below_set ?_ GE445.out | refine below_set ?_ GE446.out | refine below_set ?_ GE447.out | refine below_set ?_ GE452.out | refine below_set ?_ GE463.out | refine below_set ?_ GE467.out) | exact HB.out)) hb)
       clear HO474
       clear BK445
       clear BK446
       clear BK447
       clear BK452
       clear BK463
       clear BK467
       clear HB
       have HO474 := n0_
       have HO478 := n1_
       have BK445 := n2_
       have BK446 := n3_
       have BK447 := n4_
       have BK452 := n5_
       have BK463 := n6_
       have BK467 := n7_
       have HB := n8_
       clear n0_ n1_ n2_ n3_ n4_ n5_ n6_ n7_ n8_
       (try clear hb)
       (try clear hb2)
       (try clear hk)
       (try clear hi)
       (try clear ho0)
       obtain ⟨Ao134, co134, eo134⟩ := Kd.R_slice HO478.out
       (first | subst eo134 | (injection eo134 with f1_ f2_ f3_; have f4_ := f1_.symm; have f5_ := f3_.symm; clear f1_ f2_ f3_; subst f4_; subst f5_))
       refine hK.out _ _ ⟨(blk_cell BK447.out 0).trans rfl, (blk_cell BK452.out 0).trans rfl, (blk_cell BK452.out 1).trans rfl, (blk_cell BK452.out 2).trans rfl, (blk_cell BK452.out 3).trans rfl, (blk_cell BK463.out 0).trans rfl, (blk_cell BK463.out 1).trans rfl, (blk_cell BK467.out 0).trans rfl, (blk_cell BK467.out 1).trans rfl, (blk_cell BK446.out 0).trans rfl, (blk_cell BK446.out 1).trans rfl⟩ (fun hHeld => ?_)
       clear hK K
       refine norm_ (a' := ?_) ?_ ?_
       rotate_left
       ·show Act.put _ (some 78) _ = _
        simp only [Act.put, List.setIfInBounds_toArray, List.set_cons_zero, List.set_cons_succ, i64_w, i32_w]
        rfl
       refine one_ (i := 16) (N := some 79) #[true, true, true, true, true, true, true, true, true, true, true, true, true, true, true, true, true, false, true, false, false, false, false, false, false, false, false, false, false, false, false, false, false] rfl rfl (one_of HT_.out (by kernel_rfl)) (by decide) (fun K hK => ?_)
       refine goes_ Try.func19 (by kernel_rfl) rfl #[.slice Ao134 t476.length co134] (by rfl) rfl rfl (by (try simp only [List.map_toArray, List.map_cons, List.map_nil]); first | done | rfl | (simp only [List.length_drop, List.length_take]; rfl)) ?_
       with_reducible refine (glebelaw04_sum.calls kj36 _ _ t476 t479 _ ?side1 ?side2 A124.out).mono ?_
       (case side1 => repeat (first | exact (Kd.R_reads' HO478.out).2.2 | (with_reducible refine Kd.C_alloc ?_ _) | (with_reducible refine Kd.C_drewN ?_ _) | (with_reducible refine Kd.C_drew ?_)))
       (case side2 => exact (Kd.R_reads' HO478.out).2.1)
       rintro e w135 ⟨rfl, hb⟩
       refine ⟨_, rfl, ?_⟩
       have n0_ := Aside0.mk (Kd.R_below (br HO474.out) hb)
       have n1_ := Aside0.mk (Kd.R_below (br HO478.out) hb)
       have n2_ := Aside0.mk (blk_below (g := gb445) (o := .cells #[.int .i64 a1_0, .int .i64 a1_1, .int .i64 a1_2, .int .i64 a1_3] 23 (0, 0)) (bk BK445.out) hb)
       have n3_ := Aside0.mk (blk_below (g := gb446) (o := .cells #[.int .i64 t453, .int .i64 t454] 47 (0, 0)) (bk BK446.out) hb)
       have n4_ := Aside0.mk (blk_below (g := gb447) (o := .cells #[.int .i64 (wrap64 (1 + (Int.tmod (wrap64 ((Int.tmod a0 16) + 16)) 16)))] 27 (0, 0)) (bk BK447.out) hb)
       have n5_ := Aside0.mk (blk_below (g := gb452) (o := .cells #[.int .i64 t448, .int .i64 t449, .int .i64 t450, .int .i64 t451] 29 (0, 0)) (bk BK452.out) hb)
       have n6_ := Aside0.mk (blk_below (g := gb463) (o := .cells #[.int .i64 t460, .int .i64 t461] 47 (0, 0)) (bk BK463.out) hb)
       have n7_ := Aside0.mk (blk_below (g := gb467) (o := .cells #[.int .i64 t464, .int .i64 t465] 47 (0, 0)) (bk BK467.out) hb)
       have n8_ := Aside0.mk (below_step (by repeat (first | (with_reducible first | exact HB.out | apply below_alloc | apply pw_below_drewN | apply below_drew1 | refine below_set ?_ GE445.out | refine below_set ?_ GE446.out | refine below_set ?_ GE447.out | refine below_set ?_ GE452.out | refine below_set ?_ GE463.out | refine below_set ?_ GE467.out) | exact HB.out)) hb)
       clear HO474
       clear HO478
       clear BK445
       clear BK446
       clear BK447
       clear BK452
       clear BK463
       clear BK467
       clear HB
       have HO474 := n0_
       have HO478 := n1_
       have BK445 := n2_
       have BK446 := n3_
       have BK447 := n4_
       have BK452 := n5_
       have BK463 := n6_
       have BK467 := n7_
       have HB := n8_
       clear n0_ n1_ n2_ n3_ n4_ n5_ n6_ n7_ n8_
       (try clear hb)
       (try clear hb2)
       (try clear hk)
       (try clear hi)
       refine hK.out _ _ ⟨(blk_cell BK447.out 0).trans rfl, (blk_cell BK452.out 0).trans rfl, (blk_cell BK452.out 1).trans rfl, (blk_cell BK452.out 2).trans rfl, (blk_cell BK452.out 3).trans rfl, (blk_cell BK463.out 0).trans rfl, (blk_cell BK463.out 1).trans rfl, (blk_cell BK467.out 0).trans rfl, (blk_cell BK467.out 1).trans rfl, (blk_cell BK446.out 0).trans rfl, (blk_cell BK446.out 1).trans rfl⟩ (fun hHeld => ?_)
       clear hK K
       refine norm_ (a' := ?_) ?_ ?_
       rotate_left
       ·show Act.put _ (some 79) _ = _
        simp only [Act.put, List.setIfInBounds_toArray, List.set_cons_zero, List.set_cons_succ, i64_w, i32_w]
        rfl
       refine pure_ (i := 17) (N := some 80) (v := ?_) (a' := ?_) #[true, true, true, true, true, true, true, true, true, true, true, true, true, true, true, true, true, true, true, false, false, false, false, false, false, false, false, false, false, false, false, false, false] rfl rfl (any_of HT_.out (by kernel_rfl)) (fun _ _ _ h => h) (Or.inl ⟨by rfl, ?_⟩) ?_ ?_
       rotate_left
       ·intro w'
        go_simp
        with_reducible rfl
       rotate_left
       ·simp only [Act.put, List.setIfInBounds_toArray, List.set_cons_zero, List.set_cons_succ, i64_w, i32_w]
        rfl
       refine pure_ (i := 19) (N := some 82) (v := ?_) (a' := ?_) #[true, true, true, true, true, true, true, true, true, true, true, true, true, true, true, true, true, true, true, true, false, false, false, false, false, false, false, false, false, false, false, false, false] rfl rfl (any_of HT_.out (by kernel_rfl)) (fun _ _ _ h => h) (Or.inl ⟨by rfl, ?_⟩) ?_ ?_
       rotate_left
       ·intro w'
        go_simp
        with_reducible rfl
       rotate_left
       ·simp only [Act.put, List.setIfInBounds_toArray, List.set_cons_zero, List.set_cons_succ, i64_w, i32_w]
        rfl
       refine pure_ (i := 20) (N := some 83) (v := ?_) (a' := ?_) #[true, true, true, true, true, true, true, true, true, true, true, true, true, true, true, true, true, true, true, true, true, false, false, false, false, false, false, false, false, false, false, false, false] rfl rfl (any_of HT_.out (by kernel_rfl)) (fun _ _ _ h => h) (Or.inl ⟨by rfl, ?_⟩) ?_ ?_
       rotate_left
       ·intro w'
        go_simp
        with_reducible rfl
       rotate_left
       ·simp only [Act.put, List.setIfInBounds_toArray, List.set_cons_zero, List.set_cons_succ, i64_w, i32_w]
        rfl
       refine pure_ (i := 21) (N := some 84) (v := ?_) (a' := ?_) #[true, true, true, true, true, true, true, true, true, true, true, true, true, true, true, true, true, true, true, true, true, true, false, false, false, false, false, false, false, false, false, false, false] rfl rfl (any_of HT_.out (by kernel_rfl)) (fun _ _ _ h => h) (Or.inl ⟨by rfl, ?_⟩) ?_ ?_
       rotate_left
       ·intro w'
        go_simp
        with_reducible rfl
       rotate_left
       ·simp only [Act.put, List.setIfInBounds_toArray, List.set_cons_zero, List.set_cons_succ, i64_w, i32_w]
        rfl
       refine pure_ (i := 26) (N := some 89) (v := ?_) (a' := ?_) #[true, true, true, true, true, true, true, true, true, true, true, true, true, true, true, true, true, true, true, true, true, true, false, false, false, false, true, false, false, false, false, false, false] rfl rfl (any_of HT_.out (by kernel_rfl)) (fun _ _ _ h => h) (Or.inl ⟨by rfl, ?_⟩) ?_ ?_
       rotate_left
       ·intro w'
        go_simp
        with_reducible rfl
       rotate_left
       ·simp only [Act.put, List.setIfInBounds_toArray, List.set_cons_zero, List.set_cons_succ, i64_w, i32_w]
        rfl
       refine take_ (i := 22) (N := some 85) (v := ?_) (a' := ?_) #[true, true, true, true, true, true, true, true, true, true, true, true, true, true, true, true, true, true, true, true, true, true, true, false, false, false, true, false, false, false, false, false, false] rfl rfl (take_ofW HT_.out HW_.out (by kernel_rfl)) (fun _ _ _ h => h) (Or.inl ⟨by rfl, ?_⟩) hHeld ?_ ?_
       rotate_left
       ·rintro w' ⟨s0, s1, s2, s3, s4, s5, s6, s7, s8, s9, s10⟩
        go_simp
        with_reducible rfl
       rotate_left
       ·simp only [Act.put, List.setIfInBounds_toArray, List.set_cons_zero, List.set_cons_succ, i64_w, i32_w]
        rfl
       refine take_ (i := 23) (N := some 86) (v := ?_) (a' := ?_) #[true, true, true, true, true, true, true, true, true, true, true, true, true, true, true, true, true, true, true, true, true, true, true, true, false, false, true, false, false, false, false, false, false] rfl rfl (take_ofW HT_.out HW_.out (by kernel_rfl)) (fun _ _ _ h => h) (Or.inl ⟨by rfl, ?_⟩) hHeld ?_ ?_
       rotate_left
       ·rintro w' ⟨s0, s1, s2, s3, s4, s5, s6, s7, s8, s9, s10⟩
        go_simp
        with_reducible rfl
       rotate_left
       ·simp only [Act.put, List.setIfInBounds_toArray, List.set_cons_zero, List.set_cons_succ, i64_w, i32_w]
        rfl
       refine take_ (i := 24) (N := some 87) (v := ?_) (a' := ?_) #[true, true, true, true, true, true, true, true, true, true, true, true, true, true, true, true, true, true, true, true, true, true, true, true, true, false, true, false, false, false, false, false, false] rfl rfl (take_ofW HT_.out HW_.out (by kernel_rfl)) (fun _ _ _ h => h) (Or.inl ⟨by rfl, ?_⟩) hHeld ?_ ?_
       rotate_left
       ·rintro w' ⟨s0, s1, s2, s3, s4, s5, s6, s7, s8, s9, s10⟩
        go_simp
        with_reducible rfl
       rotate_left
       ·simp only [Act.put, List.setIfInBounds_toArray, List.set_cons_zero, List.set_cons_succ, i64_w, i32_w]
        rfl
       refine one_ (i := 25) (N := some 88) #[true, true, true, true, true, true, true, true, true, true, true, true, true, true, true, true, true, true, true, true, true, true, true, true, true, true, true, false, false, false, false, false, false] rfl rfl (one_of HT_.out (by kernel_rfl)) (by decide) (fun K hK => ?_)
       refine goes_ Try.func25 (by kernel_rfl) rfl #[.agg #[.int .i64 (wrap64 (1 + (Int.tmod (wrap64 ((Int.tmod a0 16) + 16)) 16)))], .agg #[.int .i64 t448, .int .i64 t449, .int .i64 t450, .int .i64 t451], .agg #[.int .i64 t453, .int .i64 t454]] (by rfl) rfl rfl (by (try simp only [List.map_toArray, List.map_cons, List.map_nil]); first | done | rfl | (simp only [List.length_drop, List.length_take]; rfl)) ?_
       with_reducible refine (window_Covers.calls kj36 (wrap64 (1 + (Int.tmod (wrap64 ((Int.tmod a0 16) + 16)) 16))) t448 t449 t450 t451 t453 t454 t480 _ A126.out).mono ?_
       rintro e w136 ⟨rfl, hb⟩
       refine ⟨_, rfl, ?_⟩
       have n0_ := Aside0.mk (Kd.R_below (br HO474.out) hb)
       have n1_ := Aside0.mk (Kd.R_below (br HO478.out) hb)
       have n2_ := Aside0.mk (blk_below (g := gb445) (o := .cells #[.int .i64 a1_0, .int .i64 a1_1, .int .i64 a1_2, .int .i64 a1_3] 23 (0, 0)) (bk BK445.out) hb)
       have n3_ := Aside0.mk (blk_below (g := gb446) (o := .cells #[.int .i64 t453, .int .i64 t454] 47 (0, 0)) (bk BK446.out) hb)
       have n4_ := Aside0.mk (blk_below (g := gb447) (o := .cells #[.int .i64 (wrap64 (1 + (Int.tmod (wrap64 ((Int.tmod a0 16) + 16)) 16)))] 27 (0, 0)) (bk BK447.out) hb)
       have n5_ := Aside0.mk (blk_below (g := gb452) (o := .cells #[.int .i64 t448, .int .i64 t449, .int .i64 t450, .int .i64 t451] 29 (0, 0)) (bk BK452.out) hb)
       have n6_ := Aside0.mk (blk_below (g := gb463) (o := .cells #[.int .i64 t460, .int .i64 t461] 47 (0, 0)) (bk BK463.out) hb)
       have n7_ := Aside0.mk (blk_below (g := gb467) (o := .cells #[.int .i64 t464, .int .i64 t465] 47 (0, 0)) (bk BK467.out) hb)
       have n8_ := Aside0.mk (below_step (by repeat (first | (with_reducible first | exact HB.out | apply below_alloc | apply pw_below_drewN | apply below_drew1 | refine below_set ?_ GE445.out | refine below_set ?_ GE446.out | refine below_set ?_ GE447.out | refine below_set ?_ GE452.out | refine below_set ?_ GE463.out | refine below_set ?_ GE467.out) | exact HB.out)) hb)
       clear HO474
       clear HO478
       clear BK445
       clear BK446
       clear BK447
       clear BK452
       clear BK463
       clear BK467
       clear HB
       have HO474 := n0_
       have HO478 := n1_
       have BK445 := n2_
       have BK446 := n3_
       have BK447 := n4_
       have BK452 := n5_
       have BK463 := n6_
       have BK467 := n7_
       have HB := n8_
       clear n0_ n1_ n2_ n3_ n4_ n5_ n6_ n7_ n8_
       (try clear hb)
       (try clear hb2)
       (try clear hk)
       (try clear hi)
       refine hK.out _ _ ⟨(blk_cell BK447.out 0).trans rfl, (blk_cell BK452.out 0).trans rfl, (blk_cell BK452.out 1).trans rfl, (blk_cell BK452.out 2).trans rfl, (blk_cell BK452.out 3).trans rfl, (blk_cell BK463.out 0).trans rfl, (blk_cell BK463.out 1).trans rfl, (blk_cell BK467.out 0).trans rfl, (blk_cell BK467.out 1).trans rfl, (blk_cell BK446.out 0).trans rfl, (blk_cell BK446.out 1).trans rfl⟩ (fun hHeld => ?_)
       clear hK K
       refine norm_ (a' := ?_) ?_ ?_
       rotate_left
       ·show Act.put _ (some 88) _ = _
        simp only [Act.put, List.setIfInBounds_toArray, List.set_cons_zero, List.set_cons_succ, i64_w, i32_w]
        rfl
       refine pure_ (i := 27) (N := some 90) (v := ?_) (a' := ?_) #[true, true, true, true, true, true, true, true, true, true, true, true, true, true, true, true, true, true, true, true, true, true, true, true, true, true, true, true, false, false, false, false, false] rfl rfl (any_of HT_.out (by kernel_rfl)) (fun _ _ _ h => h) (Or.inl ⟨by rfl, ?_⟩) ?_ ?_
       rotate_left
       ·intro w'
        go_simp
        with_reducible rfl
       rotate_left
       ·simp only [Act.put, List.setIfInBounds_toArray, List.set_cons_zero, List.set_cons_succ, i64_w, i32_w]
        rfl
       refine pure_ (i := 28) (N := some 91) (v := ?_) (a' := ?_) #[true, true, true, true, true, true, true, true, true, true, true, true, true, true, true, true, true, true, true, true, true, true, true, true, true, true, true, true, true, false, false, false, false] rfl rfl (any_of HT_.out (by kernel_rfl)) (fun _ _ _ h => h) (Or.inl ⟨by rfl, ?_⟩) ?_ ?_
       rotate_left
       ·intro w'
        go_simp
        with_reducible rfl
       rotate_left
       ·simp only [Act.put, List.setIfInBounds_toArray, List.set_cons_zero, List.set_cons_succ, i64_w, i32_w]
        rfl
       refine pure_ (i := 29) (N := some 92) (v := ?_) (a' := ?_) #[true, true, true, true, true, true, true, true, true, true, true, true, true, true, true, true, true, true, true, true, true, true, true, true, true, true, true, true, true, true, false, false, false] rfl rfl (any_of HT_.out (by kernel_rfl)) (fun _ _ _ h => h) (Or.inl ⟨by rfl, ?_⟩) ?_ ?_
       rotate_left
       ·intro w'
        go_simp
        with_reducible rfl
       rotate_left
       ·simp only [Act.put, List.setIfInBounds_toArray, List.set_cons_zero, List.set_cons_succ, i64_w, i32_w]
        rfl
       refine one_ (i := 30) (N := some 93) #[true, true, true, true, true, true, true, true, true, true, true, true, true, true, true, true, true, true, true, true, true, true, true, true, true, true, true, true, true, true, true, false, false] rfl rfl (one_of HT_.out (by kernel_rfl)) (by decide) (fun K hK => ?_)
       refine goes_ Try.func12 (by kernel_rfl) rfl #[] (by rfl) rfl rfl (by (try simp only [List.map_toArray, List.map_cons, List.map_nil]); first | done | rfl | (simp only [List.length_drop, List.length_take]; rfl)) ?_
       with_reducible refine (glebelaw04_knows.calls kj36  t481 _ A128.out).mono ?_
       rintro e w137 ⟨rfl, hb⟩
       refine ⟨_, rfl, ?_⟩
       have n0_ := Aside0.mk (Kd.R_below (br HO474.out) hb)
       have n1_ := Aside0.mk (Kd.R_below (br HO478.out) hb)
       have n2_ := Aside0.mk (blk_below (g := gb445) (o := .cells #[.int .i64 a1_0, .int .i64 a1_1, .int .i64 a1_2, .int .i64 a1_3] 23 (0, 0)) (bk BK445.out) hb)
       have n3_ := Aside0.mk (blk_below (g := gb446) (o := .cells #[.int .i64 t453, .int .i64 t454] 47 (0, 0)) (bk BK446.out) hb)
       have n4_ := Aside0.mk (blk_below (g := gb447) (o := .cells #[.int .i64 (wrap64 (1 + (Int.tmod (wrap64 ((Int.tmod a0 16) + 16)) 16)))] 27 (0, 0)) (bk BK447.out) hb)
       have n5_ := Aside0.mk (blk_below (g := gb452) (o := .cells #[.int .i64 t448, .int .i64 t449, .int .i64 t450, .int .i64 t451] 29 (0, 0)) (bk BK452.out) hb)
       have n6_ := Aside0.mk (blk_below (g := gb463) (o := .cells #[.int .i64 t460, .int .i64 t461] 47 (0, 0)) (bk BK463.out) hb)
       have n7_ := Aside0.mk (blk_below (g := gb467) (o := .cells #[.int .i64 t464, .int .i64 t465] 47 (0, 0)) (bk BK467.out) hb)
       have n8_ := Aside0.mk (below_step (by repeat (first | (with_reducible first | exact HB.out | apply below_alloc | apply pw_below_drewN | apply below_drew1 | refine below_set ?_ GE445.out | refine below_set ?_ GE446.out | refine below_set ?_ GE447.out | refine below_set ?_ GE452.out | refine below_set ?_ GE463.out | refine below_set ?_ GE467.out) | exact HB.out)) hb)
       clear HO474
       clear HO478
       clear BK445
       clear BK446
       clear BK447
       clear BK452
       clear BK463
       clear BK467
       clear HB
       have HO474 := n0_
       have HO478 := n1_
       have BK445 := n2_
       have BK446 := n3_
       have BK447 := n4_
       have BK452 := n5_
       have BK463 := n6_
       have BK467 := n7_
       have HB := n8_
       clear n0_ n1_ n2_ n3_ n4_ n5_ n6_ n7_ n8_
       (try clear hb)
       (try clear hb2)
       (try clear hk)
       (try clear hi)
       refine hK.out _ _ ⟨(blk_cell BK447.out 0).trans rfl, (blk_cell BK452.out 0).trans rfl, (blk_cell BK452.out 1).trans rfl, (blk_cell BK452.out 2).trans rfl, (blk_cell BK452.out 3).trans rfl, (blk_cell BK463.out 0).trans rfl, (blk_cell BK463.out 1).trans rfl, (blk_cell BK467.out 0).trans rfl, (blk_cell BK467.out 1).trans rfl, (blk_cell BK446.out 0).trans rfl, (blk_cell BK446.out 1).trans rfl⟩ (fun hHeld => ?_)
       clear hK K
       refine norm_ (a' := ?_) ?_ ?_
       rotate_left
       ·show Act.put _ (some 93) _ = _
        simp only [Act.put, List.setIfInBounds_toArray, List.set_cons_zero, List.set_cons_succ, i64_w, i32_w]
        rfl
       refine pure_ (i := 31) (N := some 94) (v := ?_) (a' := ?_) #[true, true, true, true, true, true, true, true, true, true, true, true, true, true, true, true, true, true, true, true, true, true, true, true, true, true, true, true, true, true, true, true, false] rfl rfl (any_of HT_.out (by kernel_rfl)) (fun _ _ _ h => h) (Or.inl ⟨by rfl, ?_⟩) ?_ ?_
       rotate_left
       ·intro w'
        go_simp
        with_reducible rfl
       rotate_left
       ·simp only [Act.put, List.setIfInBounds_toArray, List.set_cons_zero, List.set_cons_succ, i64_w, i32_w]
        rfl
       refine pure_ (i := 32) (N := some 6) (v := ?_) (a' := ?_) #[true, true, true, true, true, true, true, true, true, true, true, true, true, true, true, true, true, true, true, true, true, true, true, true, true, true, true, true, true, true, true, true, true] rfl rfl (any_of HT_.out (by kernel_rfl)) (fun _ _ _ h => h) (Or.inl ⟨by rfl, ?_⟩) ?_ ?_
       rotate_left
       ·intro w'
        go_simp
        with_reducible rfl
       rotate_left
       ·simp only [Act.put, List.setIfInBounds_toArray, List.set_cons_zero, List.set_cons_succ, i64_w, i32_w]
        rfl
       refine done_ (done_of HT_.out (by kernel_rfl)) ?_
       try go_wp2
       go_ret
       exact ⟨by first | rfl | (simp [errW_none, errW_some] <;> rfl) | (simp [*, errW_none, errW_some] <;> rfl), by repeat (first | (with_reducible first | exact HB.out | apply below_alloc | apply pw_below_drewN | apply below_drew1 | refine below_set ?_ GE445.out | refine below_set ?_ GE446.out | refine below_set ?_ GE447.out | refine below_set ?_ GE452.out | refine below_set ?_ GE463.out | refine below_set ?_ GE467.out) | exact HB.out)⟩
      ·rw [if_neg c127] at H
       exact absurd H (by simp)
     ·rw [if_neg c125] at H
      exact absurd H (by simp)
    ·rw [if_neg c120] at H
     exact absurd H (by simp)

end
end Go.Proofs.Ytnkfbkbllkdnoaa.PW
