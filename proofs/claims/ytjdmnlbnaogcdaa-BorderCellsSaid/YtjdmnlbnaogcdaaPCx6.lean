-- Written by a program of this session (wip/tools/hp.py) over the kit's print; nothing here is trusted: Lean checks it.
import Derived.Test.YtjdmnlbnaogcdaaPCx0
import Derived.Test.YtjdmnlbnaogcdaaPCx1
import Derived.Test.YtjdmnlbnaogcdaaPCx3
import Derived.Test.YtjdmnlbnaogcdaaPCx4
import Derived.Test.YtjdmnlbnaogcdaaPCx5
namespace Go.Proofs.Ytjdmnlbnaogcdaa.PC
open Go.RowKit Go.Proofs.YtjdmnlbnaogcdaaW.PrintWords Go.Proofs.YtjdmnlbnaogcdaaW.PrintLast Go.Proofs.YtjdmnlbnaogcdaaW.PrintMore
attribute [local go_sem] max2_int min2_int max_two min_two max_three min_three max_four min_four   -- for this text's walks alone
set_option linter.unusedVariables false
set_option linter.unusedSimpArgs false

/-! ### glebelaw06_BorderCells: function 5 -/
def glebelaw06_BorderCells.j0 : Nat → Int → Bool → Int → Int → Int → Int → Int → Option (Bool)
  | 0, _, _, _, _, _, _, _ => none
  | k + 1, x8, x53, x249000, x249001, x250000, x250001, x251000 => if x53 = true then (none) else ((path_Meet.f x249000 x249001 x250000 x250001).bind fun t260 => (if t260 = true then (some (x8 == 0)) else ((glebelaw06_cells.f k x251000 x249000 x249001 x250000 x250001).bind fun t261 => (some (x8 == t261)))))
def glebelaw06_BorderCells.f (k : Nat) (a0 : Int) (a1_0 : Int) (a1_1 : Int) (a2_0 : Int) (a2_1 : Int) : Option (Bool) := (glebelaw03_Some.f (wrap64 (1 + (Int.tmod (wrap64 ((Int.tmod a0 4) + 4)) 4))) a1_0 a1_1).bind fun bt251 => ((glebelaw03_Some.f (wrap64 (1 + (Int.tmod (wrap64 ((Int.tmod a0 4) + 4)) 4))) a2_0 a2_1).bind fun bt253 => ((border_Length.f k (wrap64 (1 + (Int.tmod (wrap64 ((Int.tmod a0 4) + 4)) 4))) bt251.1 bt251.2 bt253.1 bt253.2).bind fun t255 => ((border_Length.f k (wrap64 (1 + (Int.tmod (wrap64 ((Int.tmod a0 4) + 4)) 4))) bt253.1 bt253.2 bt251.1 bt251.2).bind fun t256 => (if t255 = t256 then ((border_Beside.f k (wrap64 (1 + (Int.tmod (wrap64 ((Int.tmod a0 4) + 4)) 4))) bt251.1 bt251.2 bt253.1 bt253.2).bind fun t257 => (if (t257 != (decide (t255 > 0))) = true then (glebelaw06_BorderCells.j0 k t255 true bt251.1 bt251.2 bt253.1 bt253.2 (wrap64 (1 + (Int.tmod (wrap64 ((Int.tmod a0 4) + 4)) 4)))) else ((border_Beside.f k (wrap64 (1 + (Int.tmod (wrap64 ((Int.tmod a0 4) + 4)) 4))) bt253.1 bt253.2 bt251.1 bt251.2).bind fun t258 => (if (t258 != (decide (t255 > 0))) = true then (glebelaw06_BorderCells.j0 k t255 true bt251.1 bt251.2 bt253.1 bt253.2 (wrap64 (1 + (Int.tmod (wrap64 ((Int.tmod a0 4) + 4)) 4)))) else ((glebelaw06_knows.f k).bind fun t259 => (glebelaw06_BorderCells.j0 k t255 (!t259) bt251.1 bt251.2 bt253.1 bt253.2 (wrap64 (1 + (Int.tmod (wrap64 ((Int.tmod a0 4) + 4)) 4))))))))) else (glebelaw06_BorderCells.j0 k t255 true bt251.1 bt251.2 bt253.1 bt253.2 (wrap64 (1 + (Int.tmod (wrap64 ((Int.tmod a0 4) + 4)) 4))))))))
theorem glebelaw06_BorderCells.mono_l : ∀ k, (∀ y0 y1 y2 y3 y4 y5 y6, LeO (glebelaw06_BorderCells.j0 k y0 y1 y2 y3 y4 y5 y6) (glebelaw06_BorderCells.j0 (k + 1) y0 y1 y2 y3 y4 y5 y6))
  | 0 => fun _ _ _ _ _ _ _ r h => by simp [glebelaw06_BorderCells.j0] at h
  | k + 1 => by
    have ih0 := glebelaw06_BorderCells.mono_l k
    · intro y0 y1 y2 y3 y4 y5 y6
      unfold glebelaw06_BorderCells.j0
      repeat' first
      | (with_reducible exact ih0 _ _ _ _ _ _ _)
      | (with_reducible exact border_Beside.mono _ _ _ _ _ _)
      | (with_reducible exact border_Length.mono _ _ _ _ _ _)
      | (with_reducible exact glebelaw06_cells.mono _ _ _ _ _ _)
      | (with_reducible exact glebelaw06_knows.mono _)
      | (with_reducible exact LeO.refl _)
      | (with_reducible exact LeO.none _)
      | (with_reducible refine LeO.ite ?_ ?_)
      | (with_reducible refine LeO.bind ?_ (fun _ => ?_))
      | exact ih0 _ _ _ _ _ _ _
      | exact border_Beside.mono _ _ _ _ _ _
      | exact border_Length.mono _ _ _ _ _ _
      | exact glebelaw06_cells.mono _ _ _ _ _ _
      | exact glebelaw06_knows.mono _
      | exact LeO.none _
      | refine LeO.ite ?_ ?_
      | refine LeO.bind ?_ (fun _ => ?_)
theorem glebelaw06_BorderCells.mono : ∀ a0 a1 a2 a3 a4 k, LeO (glebelaw06_BorderCells.f k a0 a1 a2 a3 a4) (glebelaw06_BorderCells.f (k + 1) a0 a1 a2 a3 a4) := by
  intro a0 a1 a2 a3 a4 k
  have ih0 := glebelaw06_BorderCells.mono_l k
  unfold glebelaw06_BorderCells.f
  repeat' first
      | (with_reducible exact ih0 _ _ _ _ _ _ _)
      | (with_reducible exact border_Beside.mono _ _ _ _ _ _)
      | (with_reducible exact border_Length.mono _ _ _ _ _ _)
      | (with_reducible exact glebelaw06_cells.mono _ _ _ _ _ _)
      | (with_reducible exact glebelaw06_knows.mono _)
      | (with_reducible exact LeO.refl _)
      | (with_reducible exact LeO.none _)
      | (with_reducible refine LeO.ite ?_ ?_)
      | (with_reducible refine LeO.bind ?_ (fun _ => ?_))
      | exact ih0 _ _ _ _ _ _ _
      | exact border_Beside.mono _ _ _ _ _ _
      | exact border_Length.mono _ _ _ _ _ _
      | exact glebelaw06_cells.mono _ _ _ _ _ _
      | exact glebelaw06_knows.mono _
      | exact LeO.none _
      | refine LeO.ite ?_ ?_
      | refine LeO.bind ?_ (fun _ => ?_)
set_option maxHeartbeats 8000000 in
set_option maxRecDepth 100000 in
theorem glebelaw06_BorderCells.calls (k : Nat) (a0 : Int) (a1_0 : Int) (a1_1 : Int) (a2_0 : Int) (a2_1 : Int) (r : Bool) (w : World) (h : glebelaw06_BorderCells.f k a0 a1_0 a1_1 a2_0 a2_1 = some r) :
    Calls Try.prog 5 #[.int .i64 a0, .agg #[.int .i64 a1_0, .int .i64 a1_1], .agg #[.int .i64 a2_0, .int .i64 a2_1]] w fun e w' => e = .returned (.bool r) ∧ Below w.heap.size w w' := by
  have hu23 := Try.underlying23
  have hu27 := Try.underlying27
  have HB := Aside0.mk (Below.refl w.heap.size w)
  have H : ((glebelaw03_Some.f (wrap64 (1 + (Int.tmod (wrap64 ((Int.tmod a0 4) + 4)) 4))) a1_0 a1_1).bind fun bt251 => ((glebelaw03_Some.f (wrap64 (1 + (Int.tmod (wrap64 ((Int.tmod a0 4) + 4)) 4))) a2_0 a2_1).bind fun bt253 => ((border_Length.f k (wrap64 (1 + (Int.tmod (wrap64 ((Int.tmod a0 4) + 4)) 4))) bt251.1 bt251.2 bt253.1 bt253.2).bind fun t255 => ((border_Length.f k (wrap64 (1 + (Int.tmod (wrap64 ((Int.tmod a0 4) + 4)) 4))) bt253.1 bt253.2 bt251.1 bt251.2).bind fun t256 => (if t255 = t256 then ((border_Beside.f k (wrap64 (1 + (Int.tmod (wrap64 ((Int.tmod a0 4) + 4)) 4))) bt251.1 bt251.2 bt253.1 bt253.2).bind fun t257 => (if (t257 != (decide (t255 > 0))) = true then (glebelaw06_BorderCells.j0 k t255 true bt251.1 bt251.2 bt253.1 bt253.2 (wrap64 (1 + (Int.tmod (wrap64 ((Int.tmod a0 4) + 4)) 4)))) else ((border_Beside.f k (wrap64 (1 + (Int.tmod (wrap64 ((Int.tmod a0 4) + 4)) 4))) bt253.1 bt253.2 bt251.1 bt251.2).bind fun t258 => (if (t258 != (decide (t255 > 0))) = true then (glebelaw06_BorderCells.j0 k t255 true bt251.1 bt251.2 bt253.1 bt253.2 (wrap64 (1 + (Int.tmod (wrap64 ((Int.tmod a0 4) + 4)) 4)))) else ((glebelaw06_knows.f k).bind fun t259 => (glebelaw06_BorderCells.j0 k t255 (!t259) bt251.1 bt251.2 bt253.1 bt253.2 (wrap64 (1 + (Int.tmod (wrap64 ((Int.tmod a0 4) + 4)) 4))))))))) else (glebelaw06_BorderCells.j0 k t255 true bt251.1 bt251.2 bt253.1 bt253.2 (wrap64 (1 + (Int.tmod (wrap64 ((Int.tmod a0 4) + 4)) 4))))))))) = some r := h
  clear h
  replace H := Option.bind_eq_some_iff.mp H
  obtain ⟨⟨t251, t252⟩, A40, H⟩ := H
  replace H : ((glebelaw03_Some.f (wrap64 (1 + (Int.tmod (wrap64 ((Int.tmod a0 4) + 4)) 4))) a2_0 a2_1).bind fun bt253 => ((border_Length.f k (wrap64 (1 + (Int.tmod (wrap64 ((Int.tmod a0 4) + 4)) 4))) t251 t252 bt253.1 bt253.2).bind fun t255 => ((border_Length.f k (wrap64 (1 + (Int.tmod (wrap64 ((Int.tmod a0 4) + 4)) 4))) bt253.1 bt253.2 t251 t252).bind fun t256 => (if t255 = t256 then ((border_Beside.f k (wrap64 (1 + (Int.tmod (wrap64 ((Int.tmod a0 4) + 4)) 4))) t251 t252 bt253.1 bt253.2).bind fun t257 => (if (t257 != (decide (t255 > 0))) = true then (glebelaw06_BorderCells.j0 k t255 true t251 t252 bt253.1 bt253.2 (wrap64 (1 + (Int.tmod (wrap64 ((Int.tmod a0 4) + 4)) 4)))) else ((border_Beside.f k (wrap64 (1 + (Int.tmod (wrap64 ((Int.tmod a0 4) + 4)) 4))) bt253.1 bt253.2 t251 t252).bind fun t258 => (if (t258 != (decide (t255 > 0))) = true then (glebelaw06_BorderCells.j0 k t255 true t251 t252 bt253.1 bt253.2 (wrap64 (1 + (Int.tmod (wrap64 ((Int.tmod a0 4) + 4)) 4)))) else ((glebelaw06_knows.f k).bind fun t259 => (glebelaw06_BorderCells.j0 k t255 (!t259) t251 t252 bt253.1 bt253.2 (wrap64 (1 + (Int.tmod (wrap64 ((Int.tmod a0 4) + 4)) 4))))))))) else (glebelaw06_BorderCells.j0 k t255 true t251 t252 bt253.1 bt253.2 (wrap64 (1 + (Int.tmod (wrap64 ((Int.tmod a0 4) + 4)) 4)))))))) = some r := H
  have A4 := Aside0.mk A40
  clear A40
  replace H := Option.bind_eq_some_iff.mp H
  obtain ⟨⟨t253, t254⟩, A50, H⟩ := H
  replace H : ((border_Length.f k (wrap64 (1 + (Int.tmod (wrap64 ((Int.tmod a0 4) + 4)) 4))) t251 t252 t253 t254).bind fun t255 => ((border_Length.f k (wrap64 (1 + (Int.tmod (wrap64 ((Int.tmod a0 4) + 4)) 4))) t253 t254 t251 t252).bind fun t256 => (if t255 = t256 then ((border_Beside.f k (wrap64 (1 + (Int.tmod (wrap64 ((Int.tmod a0 4) + 4)) 4))) t251 t252 t253 t254).bind fun t257 => (if (t257 != (decide (t255 > 0))) = true then (glebelaw06_BorderCells.j0 k t255 true t251 t252 t253 t254 (wrap64 (1 + (Int.tmod (wrap64 ((Int.tmod a0 4) + 4)) 4)))) else ((border_Beside.f k (wrap64 (1 + (Int.tmod (wrap64 ((Int.tmod a0 4) + 4)) 4))) t253 t254 t251 t252).bind fun t258 => (if (t258 != (decide (t255 > 0))) = true then (glebelaw06_BorderCells.j0 k t255 true t251 t252 t253 t254 (wrap64 (1 + (Int.tmod (wrap64 ((Int.tmod a0 4) + 4)) 4)))) else ((glebelaw06_knows.f k).bind fun t259 => (glebelaw06_BorderCells.j0 k t255 (!t259) t251 t252 t253 t254 (wrap64 (1 + (Int.tmod (wrap64 ((Int.tmod a0 4) + 4)) 4))))))))) else (glebelaw06_BorderCells.j0 k t255 true t251 t252 t253 t254 (wrap64 (1 + (Int.tmod (wrap64 ((Int.tmod a0 4) + 4)) 4))))))) = some r := H
  have A5 := Aside0.mk A50
  clear A50
  replace H := Option.bind_eq_some_iff.mp H
  obtain ⟨t255, A60, H⟩ := H
  replace H : ((border_Length.f k (wrap64 (1 + (Int.tmod (wrap64 ((Int.tmod a0 4) + 4)) 4))) t253 t254 t251 t252).bind fun t256 => (if t255 = t256 then ((border_Beside.f k (wrap64 (1 + (Int.tmod (wrap64 ((Int.tmod a0 4) + 4)) 4))) t251 t252 t253 t254).bind fun t257 => (if (t257 != (decide (t255 > 0))) = true then (glebelaw06_BorderCells.j0 k t255 true t251 t252 t253 t254 (wrap64 (1 + (Int.tmod (wrap64 ((Int.tmod a0 4) + 4)) 4)))) else ((border_Beside.f k (wrap64 (1 + (Int.tmod (wrap64 ((Int.tmod a0 4) + 4)) 4))) t253 t254 t251 t252).bind fun t258 => (if (t258 != (decide (t255 > 0))) = true then (glebelaw06_BorderCells.j0 k t255 true t251 t252 t253 t254 (wrap64 (1 + (Int.tmod (wrap64 ((Int.tmod a0 4) + 4)) 4)))) else ((glebelaw06_knows.f k).bind fun t259 => (glebelaw06_BorderCells.j0 k t255 (!t259) t251 t252 t253 t254 (wrap64 (1 + (Int.tmod (wrap64 ((Int.tmod a0 4) + 4)) 4))))))))) else (glebelaw06_BorderCells.j0 k t255 true t251 t252 t253 t254 (wrap64 (1 + (Int.tmod (wrap64 ((Int.tmod a0 4) + 4)) 4)))))) = some r := H
  have A6 := Aside0.mk A60
  clear A60
  have HC7 := Aside0.mk H
  clear H
  go_enter Try.func5, Try.ntmps5
  go_upto_region 6 with (first | ((with_reducible refine gate_dst (N := 4) rfl ?_); refine box_event ?hg (N := 4) ?hd (cs := #[.int .i64 a1_0, .int .i64 a1_1]) (t := 23) ?hr ?_; (case hd => rfl); (case hg => rfl); (case hr => first | (go_simp; done) | (go_simp; rfl)); intro gb248 hg w8 hbox hb; have n0_ := Aside0.mk (below_step (by repeat (first | (with_reducible first | exact HB.out | apply below_alloc | apply pw_below_drewN | apply below_drew1) | exact HB.out)) hb); have n1_ := Aside0.mk (hbox); have n2_ := Aside0.mk ((by rw [hg]; exact (below_size (by repeat (first | (with_reducible first | exact HB.out | apply below_alloc | apply pw_below_drewN | apply below_drew1) | exact HB.out))) : w.heap.size ≤ gb248)); have n3_ := Aside0.mk ((by rw [hg]; exact (below_size (by repeat (first | (with_reducible first | exact HB.out | apply below_alloc | apply pw_below_drewN | apply below_drew1) | exact HB.out))) : w.heap.size ≤ gb248)); clear HB; have HB := n0_; have BK248 := n1_; have GW248 := n2_; have GE248 := n3_; clear n0_ n1_ n2_ n3_; clear hb hbox hg) | ((with_reducible refine gate_dst (N := 5) rfl ?_); refine box_event ?hg (N := 5) ?hd (cs := #[.int .i64 a2_0, .int .i64 a2_1]) (t := 23) ?hr ?_; (case hd => rfl); (case hg => rfl); (case hr => first | (go_simp; done) | (go_simp; rfl)); intro gb249 hg w9 hbox hb; have n0_ := Aside0.mk (blk_below (g := gb248) (o := .cells #[.int .i64 a1_0, .int .i64 a1_1] 23 (0, 0)) (by (with_reducible repeat (first | refine blk_drewN ?_ _ | refine blk_drew ?_ | refine blk_alloc ?_ _)); exact BK248.out) hb); have n1_ := Aside0.mk (below_step (by repeat (first | (with_reducible first | exact HB.out | apply below_alloc | apply pw_below_drewN | apply below_drew1 | refine below_set ?_ GE248.out) | exact HB.out)) hb); have n2_ := Aside0.mk (hbox); have n3_ := Aside0.mk ((by rw [hg]; exact (below_size (by repeat (first | (with_reducible first | exact HB.out | apply below_alloc | apply pw_below_drewN | apply below_drew1 | refine below_set ?_ GE248.out) | exact HB.out))) : w.heap.size ≤ gb249)); have n4_ := Aside0.mk ((by rw [hg]; exact (below_size (by repeat (first | (with_reducible first | exact HB.out | apply below_alloc | apply pw_below_drewN | apply below_drew1 | refine below_set ?_ GE248.out) | exact HB.out))) : w.heap.size ≤ gb249)); have n5_ := Aside0.mk ((by rw [hg]; exact Nat.ne_of_lt (blk_lt (g := gb248) (o := .cells #[.int .i64 a1_0, .int .i64 a1_1] 23 (0, 0)) (by (with_reducible repeat (first | refine blk_drewN ?_ _ | refine blk_drew ?_ | refine blk_alloc ?_ _)); exact BK248.out)) : gb248 ≠ gb249)); have n6_ := Aside0.mk ((by rw [hg]; exact Nat.ne_of_gt (blk_lt (g := gb248) (o := .cells #[.int .i64 a1_0, .int .i64 a1_1] 23 (0, 0)) (by (with_reducible repeat (first | refine blk_drewN ?_ _ | refine blk_drew ?_ | refine blk_alloc ?_ _)); exact BK248.out)) : gb249 ≠ gb248)); clear BK248; clear HB; have BK248 := n0_; have HB := n1_; have BK249 := n2_; have GW249 := n3_; have GE249 := n4_; have NB248_249 := n5_; have NB249_248 := n6_; clear n0_ n1_ n2_ n3_ n4_ n5_ n6_; clear hb hbox hg) | ((with_reducible refine gate_dst (N := 7) rfl ?_); refine box_event ?hg (N := 7) ?hd (cs := #[.int .i64 0]) (t := 27) ?hr ?_; (case hd => rfl); (case hg => rfl); (case hr => first | (go_simp; done) | (go_simp; rfl)); intro gb250 hg w10 hbox hb; have n0_ := Aside0.mk (blk_below (g := gb248) (o := .cells #[.int .i64 a1_0, .int .i64 a1_1] 23 (0, 0)) (by (with_reducible repeat (first | refine blk_drewN ?_ _ | refine blk_drew ?_ | refine blk_alloc ?_ _)); exact BK248.out) hb); have n1_ := Aside0.mk (blk_below (g := gb249) (o := .cells #[.int .i64 a2_0, .int .i64 a2_1] 23 (0, 0)) (by (with_reducible repeat (first | refine blk_drewN ?_ _ | refine blk_drew ?_ | refine blk_alloc ?_ _)); exact BK249.out) hb); have n2_ := Aside0.mk (below_step (by repeat (first | (with_reducible first | exact HB.out | apply below_alloc | apply pw_below_drewN | apply below_drew1 | refine below_set ?_ GE248.out | refine below_set ?_ GE249.out) | exact HB.out)) hb); have n3_ := Aside0.mk (hbox); have n4_ := Aside0.mk ((by rw [hg]; exact (below_size (by repeat (first | (with_reducible first | exact HB.out | apply below_alloc | apply pw_below_drewN | apply below_drew1 | refine below_set ?_ GE248.out | refine below_set ?_ GE249.out) | exact HB.out))) : w.heap.size ≤ gb250)); have n5_ := Aside0.mk ((by rw [hg]; exact (below_size (by repeat (first | (with_reducible first | exact HB.out | apply below_alloc | apply pw_below_drewN | apply below_drew1 | refine below_set ?_ GE248.out | refine below_set ?_ GE249.out) | exact HB.out))) : w.heap.size ≤ gb250)); have n6_ := Aside0.mk ((by rw [hg]; exact Nat.ne_of_lt (blk_lt (g := gb248) (o := .cells #[.int .i64 a1_0, .int .i64 a1_1] 23 (0, 0)) (by (with_reducible repeat (first | refine blk_drewN ?_ _ | refine blk_drew ?_ | refine blk_alloc ?_ _)); exact BK248.out)) : gb248 ≠ gb250)); have n7_ := Aside0.mk ((by rw [hg]; exact Nat.ne_of_gt (blk_lt (g := gb248) (o := .cells #[.int .i64 a1_0, .int .i64 a1_1] 23 (0, 0)) (by (with_reducible repeat (first | refine blk_drewN ?_ _ | refine blk_drew ?_ | refine blk_alloc ?_ _)); exact BK248.out)) : gb250 ≠ gb248)); have n8_ := Aside0.mk ((by rw [hg]; exact Nat.ne_of_lt (blk_lt (g := gb249) (o := .cells #[.int .i64 a2_0, .int .i64 a2_1] 23 (0, 0)) (by (with_reducible repeat (first | refine blk_drewN ?_ _ | refine blk_drew ?_ | refine blk_alloc ?_ _)); exact BK249.out)) : gb249 ≠ gb250)); have n9_ := Aside0.mk ((by rw [hg]; exact Nat.ne_of_gt (blk_lt (g := gb249) (o := .cells #[.int .i64 a2_0, .int .i64 a2_1] 23 (0, 0)) (by (with_reducible repeat (first | refine blk_drewN ?_ _ | refine blk_drew ?_ | refine blk_alloc ?_ _)); exact BK249.out)) : gb250 ≠ gb249)); clear BK248; clear BK249; clear HB; have BK248 := n0_; have BK249 := n1_; have HB := n2_; have BK250 := n3_; have GW250 := n4_; have GE250 := n5_; have NB248_250 := n6_; have NB250_248 := n7_; have NB249_250 := n8_; have NB250_249 := n9_; clear n0_ n1_ n2_ n3_ n4_ n5_ n6_ n7_ n8_ n9_; clear hb hbox hg; have hnb11 := NB250_248.out; have hnc11 := NB248_250.out; have hnb12 := NB250_249.out; have hnc12 := NB249_250.out; have hcz13_0 : w10.cell? ⟨gb250, 0, none⟩ = some (.int .i64 0) := (blk_cell BK250.out 0).trans rfl; have hfz13_0 := blk_frozen BK250.out 0; have hnb14 := NB248_249.out; have hnc14 := NB249_248.out; have hcz15_0 : w10.cell? ⟨gb248, 0, none⟩ = some (.int .i64 a1_0) := (blk_cell BK248.out 0).trans rfl; have hcz15_1 : w10.cell? ⟨gb248, 1, none⟩ = some (.int .i64 a1_1) := (blk_cell BK248.out 1).trans rfl; have hfz15_0 := blk_frozen BK248.out 0; have hfz15_1 := blk_frozen BK248.out 1) | ((with_reducible refine gate_callee (f := 20) rfl ?_); refine goesL_ (some 18) rfl rfl Try.func20 (by kernel_rfl) rfl #[.int .i64 (wrap64 (1 + (Int.tmod (wrap64 ((Int.tmod a0 4) + 4)) 4))), .agg #[.int .i64 a1_0, .int .i64 a1_1]] rfl (by (try simp only [List.map_toArray, List.map_cons, List.map_nil]); first | done | rfl | (simp only [List.length_drop, List.length_take]; rfl)) ?_; (with_reducible refine (glebelaw03_Some.calls (wrap64 (1 + (Int.tmod (wrap64 ((Int.tmod a0 4) + 4)) 4))) a1_0 a1_1 t251 t252 _ A4.out).mono ?_); rintro e w16 ⟨rfl, hb⟩; refine ⟨_, rfl, ?_⟩; have n0_ := Aside0.mk (blk_below (g := gb248) (o := .cells #[.int .i64 a1_0, .int .i64 a1_1] 23 (0, 0)) (by (with_reducible repeat (first | refine blk_drewN ?_ _ | refine blk_drew ?_ | refine blk_alloc ?_ _)); refine blk_far ?_ NB248_250.out _; (with_reducible repeat (first | refine blk_drewN ?_ _ | refine blk_drew ?_ | refine blk_alloc ?_ _)); exact BK248.out) hb); have n1_ := Aside0.mk (blk_below (g := gb249) (o := .cells #[.int .i64 a2_0, .int .i64 a2_1] 23 (0, 0)) (by (with_reducible repeat (first | refine blk_drewN ?_ _ | refine blk_drew ?_ | refine blk_alloc ?_ _)); refine blk_far ?_ NB249_250.out _; (with_reducible repeat (first | refine blk_drewN ?_ _ | refine blk_drew ?_ | refine blk_alloc ?_ _)); exact BK249.out) hb); have n2_ := Aside0.mk (blk_below (g := gb250) (o := .cells #[.int .i64 (wrap64 (1 + (Int.tmod (wrap64 ((Int.tmod a0 4) + 4)) 4)))] 27 (0, 0)) (by (with_reducible repeat (first | refine blk_drewN ?_ _ | refine blk_drew ?_ | refine blk_alloc ?_ _)); refine blk_put (cs := #[.int .i64 0]) ?_ 0 _ rfl; (with_reducible repeat (first | refine blk_drewN ?_ _ | refine blk_drew ?_ | refine blk_alloc ?_ _)); exact BK250.out) hb); have n3_ := Aside0.mk (below_step (by repeat (first | (with_reducible first | exact HB.out | apply below_alloc | apply pw_below_drewN | apply below_drew1 | refine below_set ?_ GE248.out | refine below_set ?_ GE249.out | refine below_set ?_ GE250.out) | exact HB.out)) hb); clear BK248; clear BK249; clear BK250; clear HB; have BK248 := n0_; have BK249 := n1_; have BK250 := n2_; have HB := n3_; clear n0_ n1_ n2_ n3_; (try clear hb); (try clear hb2); (try clear hk); (try clear hi); have hcz17_0 : w16.cell? ⟨gb248, 0, none⟩ = some (.int .i64 a1_0) := (blk_cell BK248.out 0).trans rfl; have hcz17_1 : w16.cell? ⟨gb248, 1, none⟩ = some (.int .i64 a1_1) := (blk_cell BK248.out 1).trans rfl; have hfz17_0 := blk_frozen BK248.out 0; have hfz17_1 := blk_frozen BK248.out 1; have hcz18_0 : w16.cell? ⟨gb249, 0, none⟩ = some (.int .i64 a2_0) := (blk_cell BK249.out 0).trans rfl; have hcz18_1 : w16.cell? ⟨gb249, 1, none⟩ = some (.int .i64 a2_1) := (blk_cell BK249.out 1).trans rfl; have hfz18_0 := blk_frozen BK249.out 0; have hfz18_1 := blk_frozen BK249.out 1) | ((with_reducible refine gate_callee (f := 20) rfl ?_); refine goesL_ (some 21) rfl rfl Try.func20 (by kernel_rfl) rfl #[.int .i64 (wrap64 (1 + (Int.tmod (wrap64 ((Int.tmod a0 4) + 4)) 4))), .agg #[.int .i64 a2_0, .int .i64 a2_1]] rfl (by (try simp only [List.map_toArray, List.map_cons, List.map_nil]); first | done | rfl | (simp only [List.length_drop, List.length_take]; rfl)) ?_; (with_reducible refine (glebelaw03_Some.calls (wrap64 (1 + (Int.tmod (wrap64 ((Int.tmod a0 4) + 4)) 4))) a2_0 a2_1 t253 t254 _ A5.out).mono ?_); rintro e w19 ⟨rfl, hb⟩; refine ⟨_, rfl, ?_⟩; have n0_ := Aside0.mk (blk_below (g := gb248) (o := .cells #[.int .i64 t251, .int .i64 t252] 23 (0, 0)) (by (with_reducible repeat (first | refine blk_drewN ?_ _ | refine blk_drew ?_ | refine blk_alloc ?_ _)); refine blk_put (cs := #[.int .i64 t251, .int .i64 a1_1]) ?_ 1 _ rfl; (with_reducible repeat (first | refine blk_drewN ?_ _ | refine blk_drew ?_ | refine blk_alloc ?_ _)); refine blk_put (cs := #[.int .i64 a1_0, .int .i64 a1_1]) ?_ 0 _ rfl; (with_reducible repeat (first | refine blk_drewN ?_ _ | refine blk_drew ?_ | refine blk_alloc ?_ _)); exact BK248.out) hb); have n1_ := Aside0.mk (blk_below (g := gb249) (o := .cells #[.int .i64 a2_0, .int .i64 a2_1] 23 (0, 0)) (by (with_reducible repeat (first | refine blk_drewN ?_ _ | refine blk_drew ?_ | refine blk_alloc ?_ _)); refine blk_far ?_ NB249_248.out _; (with_reducible repeat (first | refine blk_drewN ?_ _ | refine blk_drew ?_ | refine blk_alloc ?_ _)); refine blk_far ?_ NB249_248.out _; (with_reducible repeat (first | refine blk_drewN ?_ _ | refine blk_drew ?_ | refine blk_alloc ?_ _)); exact BK249.out) hb); have n2_ := Aside0.mk (blk_below (g := gb250) (o := .cells #[.int .i64 (wrap64 (1 + (Int.tmod (wrap64 ((Int.tmod a0 4) + 4)) 4)))] 27 (0, 0)) (by (with_reducible repeat (first | refine blk_drewN ?_ _ | refine blk_drew ?_ | refine blk_alloc ?_ _)); refine blk_far ?_ NB250_248.out _; (with_reducible repeat (first | refine blk_drewN ?_ _ | refine blk_drew ?_ | refine blk_alloc ?_ _)); refine blk_far ?_ NB250_248.out _; (with_reducible repeat (first | refine blk_drewN ?_ _ | refine blk_drew ?_ | refine blk_alloc ?_ _)); exact BK250.out) hb); have n3_ := Aside0.mk (below_step (by repeat (first | (with_reducible first | exact HB.out | apply below_alloc | apply pw_below_drewN | apply below_drew1 | refine below_set ?_ GE248.out | refine below_set ?_ GE249.out | refine below_set ?_ GE250.out) | exact HB.out)) hb); clear BK248; clear BK249; clear BK250; clear HB; have BK248 := n0_; have BK249 := n1_; have BK250 := n2_; have HB := n3_; clear n0_ n1_ n2_ n3_; (try clear hb); (try clear hb2); (try clear hk); (try clear hi); have hcz20_0 : w19.cell? ⟨gb249, 0, none⟩ = some (.int .i64 a2_0) := (blk_cell BK249.out 0).trans rfl; have hcz20_1 : w19.cell? ⟨gb249, 1, none⟩ = some (.int .i64 a2_1) := (blk_cell BK249.out 1).trans rfl; have hfz20_0 := blk_frozen BK249.out 0; have hfz20_1 := blk_frozen BK249.out 1; have hcz21_0 : w19.cell? ⟨gb250, 0, none⟩ = some (.int .i64 (wrap64 (1 + (Int.tmod (wrap64 ((Int.tmod a0 4) + 4)) 4)))) := (blk_cell BK250.out 0).trans rfl; have hfz21_0 := blk_frozen BK250.out 0; have hcz22_0 : w19.cell? ⟨gb248, 0, none⟩ = some (.int .i64 t251) := (blk_cell BK248.out 0).trans rfl; have hcz22_1 : w19.cell? ⟨gb248, 1, none⟩ = some (.int .i64 t252) := (blk_cell BK248.out 1).trans rfl; have hfz22_0 := blk_frozen BK248.out 0; have hfz22_1 := blk_frozen BK248.out 1) | ((with_reducible refine gate_callee (f := 13) rfl ?_); refine goesL_ (some 25) rfl rfl Try.func13 (by kernel_rfl) rfl #[.agg #[.int .i64 (wrap64 (1 + (Int.tmod (wrap64 ((Int.tmod a0 4) + 4)) 4)))], .agg #[.int .i64 t251, .int .i64 t252], .agg #[.int .i64 t253, .int .i64 t254]] rfl (by (try simp only [List.map_toArray, List.map_cons, List.map_nil]); first | done | rfl | (simp only [List.length_drop, List.length_take]; rfl)) ?_; (with_reducible refine (border_Length.calls k (wrap64 (1 + (Int.tmod (wrap64 ((Int.tmod a0 4) + 4)) 4))) t251 t252 t253 t254 t255 _ A6.out).mono ?_); rintro e w23 ⟨rfl, hb⟩; refine ⟨_, rfl, ?_⟩; have n0_ := Aside0.mk (blk_below (g := gb248) (o := .cells #[.int .i64 t251, .int .i64 t252] 23 (0, 0)) (by (with_reducible repeat (first | refine blk_drewN ?_ _ | refine blk_drew ?_ | refine blk_alloc ?_ _)); refine blk_far ?_ NB248_249.out _; (with_reducible repeat (first | refine blk_drewN ?_ _ | refine blk_drew ?_ | refine blk_alloc ?_ _)); refine blk_far ?_ NB248_249.out _; (with_reducible repeat (first | refine blk_drewN ?_ _ | refine blk_drew ?_ | refine blk_alloc ?_ _)); exact BK248.out) hb); have n1_ := Aside0.mk (blk_below (g := gb249) (o := .cells #[.int .i64 t253, .int .i64 t254] 23 (0, 0)) (by (with_reducible repeat (first | refine blk_drewN ?_ _ | refine blk_drew ?_ | refine blk_alloc ?_ _)); refine blk_put (cs := #[.int .i64 t253, .int .i64 a2_1]) ?_ 1 _ rfl; (with_reducible repeat (first | refine blk_drewN ?_ _ | refine blk_drew ?_ | refine blk_alloc ?_ _)); refine blk_put (cs := #[.int .i64 a2_0, .int .i64 a2_1]) ?_ 0 _ rfl; (with_reducible repeat (first | refine blk_drewN ?_ _ | refine blk_drew ?_ | refine blk_alloc ?_ _)); exact BK249.out) hb); have n2_ := Aside0.mk (blk_below (g := gb250) (o := .cells #[.int .i64 (wrap64 (1 + (Int.tmod (wrap64 ((Int.tmod a0 4) + 4)) 4)))] 27 (0, 0)) (by (with_reducible repeat (first | refine blk_drewN ?_ _ | refine blk_drew ?_ | refine blk_alloc ?_ _)); refine blk_far ?_ NB250_249.out _; (with_reducible repeat (first | refine blk_drewN ?_ _ | refine blk_drew ?_ | refine blk_alloc ?_ _)); refine blk_far ?_ NB250_249.out _; (with_reducible repeat (first | refine blk_drewN ?_ _ | refine blk_drew ?_ | refine blk_alloc ?_ _)); exact BK250.out) hb); have n3_ := Aside0.mk (below_step (by repeat (first | (with_reducible first | exact HB.out | apply below_alloc | apply pw_below_drewN | apply below_drew1 | refine below_set ?_ GE248.out | refine below_set ?_ GE249.out | refine below_set ?_ GE250.out) | exact HB.out)) hb); clear BK248; clear BK249; clear BK250; clear HB; have BK248 := n0_; have BK249 := n1_; have BK250 := n2_; have HB := n3_; clear n0_ n1_ n2_ n3_; (try clear hb); (try clear hb2); (try clear hk); (try clear hi)))
  (try simp only [Act.put, List.setIfInBounds_toArray, List.set_cons_zero, List.set_cons_succ])
  go_cut [53] (fun v53 wc => ∃ (kq : Nat) (x53_6 : Bool), v53 = .bool x53_6 ∧ Aside0 (glebelaw06_BorderCells.j0 kq t255 x53_6 t251 t252 t253 t254 (wrap64 (1 + (Int.tmod (wrap64 ((Int.tmod a0 4) + 4)) 4))) = some r) ∧ Aside0 (kq ≤ k) ∧ Aside0 (wc.heap[gb248]? = some (.cells #[.int .i64 t251, .int .i64 t252] 23 (0, 0))) ∧ Aside0 (wc.heap[gb249]? = some (.cells #[.int .i64 t253, .int .i64 t254] 23 (0, 0))) ∧ Aside0 (wc.heap[gb250]? = some (.cells #[.int .i64 (wrap64 (1 + (Int.tmod (wrap64 ((Int.tmod a0 4) + 4)) 4)))] 27 (0, 0))) ∧ Aside0 (Below w.heap.size w wc))
  case first =>
    have H := HC7.out
    clear HC7
    replace H := Option.bind_eq_some_iff.mp H
    obtain ⟨t256, A240, H⟩ := H
    replace H : (if t255 = t256 then ((border_Beside.f k (wrap64 (1 + (Int.tmod (wrap64 ((Int.tmod a0 4) + 4)) 4))) t251 t252 t253 t254).bind fun t257 => (if (t257 != (decide (t255 > 0))) = true then (glebelaw06_BorderCells.j0 k t255 true t251 t252 t253 t254 (wrap64 (1 + (Int.tmod (wrap64 ((Int.tmod a0 4) + 4)) 4)))) else ((border_Beside.f k (wrap64 (1 + (Int.tmod (wrap64 ((Int.tmod a0 4) + 4)) 4))) t253 t254 t251 t252).bind fun t258 => (if (t258 != (decide (t255 > 0))) = true then (glebelaw06_BorderCells.j0 k t255 true t251 t252 t253 t254 (wrap64 (1 + (Int.tmod (wrap64 ((Int.tmod a0 4) + 4)) 4)))) else ((glebelaw06_knows.f k).bind fun t259 => (glebelaw06_BorderCells.j0 k t255 (!t259) t251 t252 t253 t254 (wrap64 (1 + (Int.tmod (wrap64 ((Int.tmod a0 4) + 4)) 4))))))))) else (glebelaw06_BorderCells.j0 k t255 true t251 t252 t253 t254 (wrap64 (1 + (Int.tmod (wrap64 ((Int.tmod a0 4) + 4)) 4))))) = some r := H
    have A24 := Aside0.mk A240
    clear A240
    by_cases c25 : t255 = t256
    · rw [if_pos c25] at H
      have c25b0 : (t255 == t256) = true := beq_iff_eq.mpr c25
      have c25b1 : (t255 != t256) = false := bne_eq_false_iff_eq.mpr c25
      clear c25
      (first | rw [c25b0] | (simp only [i64_w, i32_w]; rw [c25b0]) | skip)
      replace H := Option.bind_eq_some_iff.mp H
      obtain ⟨t257, A260, H⟩ := H
      replace H : (if (t257 != (decide (t255 > 0))) = true then (glebelaw06_BorderCells.j0 k t255 true t251 t252 t253 t254 (wrap64 (1 + (Int.tmod (wrap64 ((Int.tmod a0 4) + 4)) 4)))) else ((border_Beside.f k (wrap64 (1 + (Int.tmod (wrap64 ((Int.tmod a0 4) + 4)) 4))) t253 t254 t251 t252).bind fun t258 => (if (t258 != (decide (t255 > 0))) = true then (glebelaw06_BorderCells.j0 k t255 true t251 t252 t253 t254 (wrap64 (1 + (Int.tmod (wrap64 ((Int.tmod a0 4) + 4)) 4)))) else ((glebelaw06_knows.f k).bind fun t259 => (glebelaw06_BorderCells.j0 k t255 (!t259) t251 t252 t253 t254 (wrap64 (1 + (Int.tmod (wrap64 ((Int.tmod a0 4) + 4)) 4)))))))) = some r := H
      have A26 := Aside0.mk A260
      clear A260
      by_cases c27 : (t257 != (decide (t255 > 0))) = true
      · rw [if_pos c27] at H
        have c27b0 : (t257 != (decide (t255 > 0))) = true := c27
        (try (have c27b1 : decide (t257 = (decide (t255 > 0))) = false := by simpa using c27))
        (try (have c27b2 : (t257 == (decide (t255 > 0))) = false := by simpa using c27))
        (try (have c27b3 : ¬ (t257 = (decide (t255 > 0))) := by simpa using c27))
        clear c27
        have H' := Aside0.mk H
        clear H
        have hnb28 := NB250_248.out
        have hnc28 := NB248_250.out
        have hnb29 := NB250_249.out
        have hnc29 := NB249_250.out
        have hcz30_0 : w23.cell? ⟨gb250, 0, none⟩ = some (.int .i64 (wrap64 (1 + (Int.tmod (wrap64 ((Int.tmod a0 4) + 4)) 4)))) := (blk_cell BK250.out 0).trans rfl
        have hfz30_0 := blk_frozen BK250.out 0
        have hnb31 := NB249_248.out
        have hnc31 := NB248_249.out
        have hcz32_0 : w23.cell? ⟨gb249, 0, none⟩ = some (.int .i64 t253) := (blk_cell BK249.out 0).trans rfl
        have hcz32_1 : w23.cell? ⟨gb249, 1, none⟩ = some (.int .i64 t254) := (blk_cell BK249.out 1).trans rfl
        have hfz32_0 := blk_frozen BK249.out 0
        have hfz32_1 := blk_frozen BK249.out 1
        have hcz33_0 : w23.cell? ⟨gb248, 0, none⟩ = some (.int .i64 t251) := (blk_cell BK248.out 0).trans rfl
        have hcz33_1 : w23.cell? ⟨gb248, 1, none⟩ = some (.int .i64 t252) := (blk_cell BK248.out 1).trans rfl
        have hfz33_0 := blk_frozen BK248.out 0
        have hfz33_1 := blk_frozen BK248.out 1
        go_wp2_with (first | ((with_reducible refine gate_callee (f := 13) rfl ?_); refine goesL_ (some 30) rfl rfl Try.func13 (by kernel_rfl) rfl #[.agg #[.int .i64 (wrap64 (1 + (Int.tmod (wrap64 ((Int.tmod a0 4) + 4)) 4)))], .agg #[.int .i64 t253, .int .i64 t254], .agg #[.int .i64 t251, .int .i64 t252]] rfl (by (try simp only [List.map_toArray, List.map_cons, List.map_nil]); first | done | rfl | (simp only [List.length_drop, List.length_take]; rfl)) ?_; (with_reducible refine (border_Length.calls k (wrap64 (1 + (Int.tmod (wrap64 ((Int.tmod a0 4) + 4)) 4))) t253 t254 t251 t252 t256 _ A24.out).mono ?_); rintro e w34 ⟨rfl, hb⟩; refine ⟨_, rfl, ?_⟩; have n0_ := Aside0.mk (blk_below (g := gb248) (o := .cells #[.int .i64 t251, .int .i64 t252] 23 (0, 0)) (by (with_reducible repeat (first | refine blk_drewN ?_ _ | refine blk_drew ?_ | refine blk_alloc ?_ _)); exact BK248.out) hb); have n1_ := Aside0.mk (blk_below (g := gb249) (o := .cells #[.int .i64 t253, .int .i64 t254] 23 (0, 0)) (by (with_reducible repeat (first | refine blk_drewN ?_ _ | refine blk_drew ?_ | refine blk_alloc ?_ _)); exact BK249.out) hb); have n2_ := Aside0.mk (blk_below (g := gb250) (o := .cells #[.int .i64 (wrap64 (1 + (Int.tmod (wrap64 ((Int.tmod a0 4) + 4)) 4)))] 27 (0, 0)) (by (with_reducible repeat (first | refine blk_drewN ?_ _ | refine blk_drew ?_ | refine blk_alloc ?_ _)); exact BK250.out) hb); have n3_ := Aside0.mk (below_step (by repeat (first | (with_reducible first | exact HB.out | apply below_alloc | apply pw_below_drewN | apply below_drew1 | refine below_set ?_ GE248.out | refine below_set ?_ GE249.out | refine below_set ?_ GE250.out) | exact HB.out)) hb); clear BK248; clear BK249; clear BK250; clear HB; have BK248 := n0_; have BK249 := n1_; have BK250 := n2_; have HB := n3_; clear n0_ n1_ n2_ n3_; (try clear hb); (try clear hb2); (try clear hk); (try clear hi); have hcz35_0 : w34.cell? ⟨gb250, 0, none⟩ = some (.int .i64 (wrap64 (1 + (Int.tmod (wrap64 ((Int.tmod a0 4) + 4)) 4)))) := (blk_cell BK250.out 0).trans rfl; have hfz35_0 := blk_frozen BK250.out 0; have hcz36_0 : w34.cell? ⟨gb248, 0, none⟩ = some (.int .i64 t251) := (blk_cell BK248.out 0).trans rfl; have hcz36_1 : w34.cell? ⟨gb248, 1, none⟩ = some (.int .i64 t252) := (blk_cell BK248.out 1).trans rfl; have hfz36_0 := blk_frozen BK248.out 0; have hfz36_1 := blk_frozen BK248.out 1; have hcz37_0 : w34.cell? ⟨gb249, 0, none⟩ = some (.int .i64 t253) := (blk_cell BK249.out 0).trans rfl; have hcz37_1 : w34.cell? ⟨gb249, 1, none⟩ = some (.int .i64 t254) := (blk_cell BK249.out 1).trans rfl; have hfz37_0 := blk_frozen BK249.out 0; have hfz37_1 := blk_frozen BK249.out 1) | (go_at_call 15; (with_reducible refine (border_Beside.calls k (wrap64 (1 + (Int.tmod (wrap64 ((Int.tmod a0 4) + 4)) 4))) t251 t252 t253 t254 t257 _ A26.out).mono ?_); rintro e w38 ⟨rfl, hb⟩; have n0_ := Aside0.mk (blk_below (g := gb248) (o := .cells #[.int .i64 t251, .int .i64 t252] 23 (0, 0)) (by (with_reducible repeat (first | refine blk_drewN ?_ _ | refine blk_drew ?_ | refine blk_alloc ?_ _)); exact BK248.out) hb); have n1_ := Aside0.mk (blk_below (g := gb249) (o := .cells #[.int .i64 t253, .int .i64 t254] 23 (0, 0)) (by (with_reducible repeat (first | refine blk_drewN ?_ _ | refine blk_drew ?_ | refine blk_alloc ?_ _)); exact BK249.out) hb); have n2_ := Aside0.mk (blk_below (g := gb250) (o := .cells #[.int .i64 (wrap64 (1 + (Int.tmod (wrap64 ((Int.tmod a0 4) + 4)) 4)))] 27 (0, 0)) (by (with_reducible repeat (first | refine blk_drewN ?_ _ | refine blk_drew ?_ | refine blk_alloc ?_ _)); exact BK250.out) hb); have n3_ := Aside0.mk (below_step (by repeat (first | (with_reducible first | exact HB.out | apply below_alloc | apply pw_below_drewN | apply below_drew1 | refine below_set ?_ GE248.out | refine below_set ?_ GE249.out | refine below_set ?_ GE250.out) | exact HB.out)) hb); clear BK248; clear BK249; clear BK250; clear HB; have BK248 := n0_; have BK249 := n1_; have BK250 := n2_; have HB := n3_; clear n0_ n1_ n2_ n3_; (try clear hb); (try clear hb2); (try clear hk); (try clear hi)))
        go_meet
        case rel => exact ⟨_, (true), (by first | rfl | (simp; done) | (simp [*]; done)), H', ⟨by first | omega | exact Nat.le_refl _⟩, ⟨by (with_reducible repeat (first | refine blk_drewN ?_ _ | refine blk_drew ?_ | refine blk_alloc ?_ _)); exact BK248.out⟩, ⟨by (with_reducible repeat (first | refine blk_drewN ?_ _ | refine blk_drew ?_ | refine blk_alloc ?_ _)); exact BK249.out⟩, ⟨by (with_reducible repeat (first | refine blk_drewN ?_ _ | refine blk_drew ?_ | refine blk_alloc ?_ _)); exact BK250.out⟩, ⟨by repeat (first | (with_reducible first | exact HB.out | apply below_alloc | apply pw_below_drewN | apply below_drew1 | refine below_set ?_ GE248.out | refine below_set ?_ GE249.out | refine below_set ?_ GE250.out) | exact HB.out)⟩⟩
      · rw [if_neg c27] at H
        have c27b0 : (t257 != (decide (t255 > 0))) = false := by simpa using c27
        (try (have c27b1 : decide (t257 = (decide (t255 > 0))) = true := by simpa using c27))
        (try (have c27b2 : (t257 == (decide (t255 > 0))) = true := by simpa using c27))
        clear c27
        replace H := Option.bind_eq_some_iff.mp H
        obtain ⟨t258, A390, H⟩ := H
        replace H : (if (t258 != (decide (t255 > 0))) = true then (glebelaw06_BorderCells.j0 k t255 true t251 t252 t253 t254 (wrap64 (1 + (Int.tmod (wrap64 ((Int.tmod a0 4) + 4)) 4)))) else ((glebelaw06_knows.f k).bind fun t259 => (glebelaw06_BorderCells.j0 k t255 (!t259) t251 t252 t253 t254 (wrap64 (1 + (Int.tmod (wrap64 ((Int.tmod a0 4) + 4)) 4)))))) = some r := H
        have A39 := Aside0.mk A390
        clear A390
        by_cases c40 : (t258 != (decide (t255 > 0))) = true
        · rw [if_pos c40] at H
          have c40b0 : (t258 != (decide (t255 > 0))) = true := c40
          (try (have c40b1 : decide (t258 = (decide (t255 > 0))) = false := by simpa using c40))
          (try (have c40b2 : (t258 == (decide (t255 > 0))) = false := by simpa using c40))
          (try (have c40b3 : ¬ (t258 = (decide (t255 > 0))) := by simpa using c40))
          clear c40
          have H' := Aside0.mk H
          clear H
          have hnb41 := NB250_248.out
          have hnc41 := NB248_250.out
          have hnb42 := NB250_249.out
          have hnc42 := NB249_250.out
          have hcz43_0 : w23.cell? ⟨gb250, 0, none⟩ = some (.int .i64 (wrap64 (1 + (Int.tmod (wrap64 ((Int.tmod a0 4) + 4)) 4)))) := (blk_cell BK250.out 0).trans rfl
          have hfz43_0 := blk_frozen BK250.out 0
          have hnb44 := NB249_248.out
          have hnc44 := NB248_249.out
          have hcz45_0 : w23.cell? ⟨gb249, 0, none⟩ = some (.int .i64 t253) := (blk_cell BK249.out 0).trans rfl
          have hcz45_1 : w23.cell? ⟨gb249, 1, none⟩ = some (.int .i64 t254) := (blk_cell BK249.out 1).trans rfl
          have hfz45_0 := blk_frozen BK249.out 0
          have hfz45_1 := blk_frozen BK249.out 1
          have hcz46_0 : w23.cell? ⟨gb248, 0, none⟩ = some (.int .i64 t251) := (blk_cell BK248.out 0).trans rfl
          have hcz46_1 : w23.cell? ⟨gb248, 1, none⟩ = some (.int .i64 t252) := (blk_cell BK248.out 1).trans rfl
          have hfz46_0 := blk_frozen BK248.out 0
          have hfz46_1 := blk_frozen BK248.out 1
          go_wp2_with (first | ((with_reducible refine gate_callee (f := 13) rfl ?_); refine goesL_ (some 30) rfl rfl Try.func13 (by kernel_rfl) rfl #[.agg #[.int .i64 (wrap64 (1 + (Int.tmod (wrap64 ((Int.tmod a0 4) + 4)) 4)))], .agg #[.int .i64 t253, .int .i64 t254], .agg #[.int .i64 t251, .int .i64 t252]] rfl (by (try simp only [List.map_toArray, List.map_cons, List.map_nil]); first | done | rfl | (simp only [List.length_drop, List.length_take]; rfl)) ?_; (with_reducible refine (border_Length.calls k (wrap64 (1 + (Int.tmod (wrap64 ((Int.tmod a0 4) + 4)) 4))) t253 t254 t251 t252 t256 _ A24.out).mono ?_); rintro e w47 ⟨rfl, hb⟩; refine ⟨_, rfl, ?_⟩; have n0_ := Aside0.mk (blk_below (g := gb248) (o := .cells #[.int .i64 t251, .int .i64 t252] 23 (0, 0)) (by (with_reducible repeat (first | refine blk_drewN ?_ _ | refine blk_drew ?_ | refine blk_alloc ?_ _)); exact BK248.out) hb); have n1_ := Aside0.mk (blk_below (g := gb249) (o := .cells #[.int .i64 t253, .int .i64 t254] 23 (0, 0)) (by (with_reducible repeat (first | refine blk_drewN ?_ _ | refine blk_drew ?_ | refine blk_alloc ?_ _)); exact BK249.out) hb); have n2_ := Aside0.mk (blk_below (g := gb250) (o := .cells #[.int .i64 (wrap64 (1 + (Int.tmod (wrap64 ((Int.tmod a0 4) + 4)) 4)))] 27 (0, 0)) (by (with_reducible repeat (first | refine blk_drewN ?_ _ | refine blk_drew ?_ | refine blk_alloc ?_ _)); exact BK250.out) hb); have n3_ := Aside0.mk (below_step (by repeat (first | (with_reducible first | exact HB.out | apply below_alloc | apply pw_below_drewN | apply below_drew1 | refine below_set ?_ GE248.out | refine below_set ?_ GE249.out | refine below_set ?_ GE250.out) | exact HB.out)) hb); clear BK248; clear BK249; clear BK250; clear HB; have BK248 := n0_; have BK249 := n1_; have BK250 := n2_; have HB := n3_; clear n0_ n1_ n2_ n3_; (try clear hb); (try clear hb2); (try clear hk); (try clear hi); have hcz48_0 : w47.cell? ⟨gb250, 0, none⟩ = some (.int .i64 (wrap64 (1 + (Int.tmod (wrap64 ((Int.tmod a0 4) + 4)) 4)))) := (blk_cell BK250.out 0).trans rfl; have hfz48_0 := blk_frozen BK250.out 0; have hcz49_0 : w47.cell? ⟨gb248, 0, none⟩ = some (.int .i64 t251) := (blk_cell BK248.out 0).trans rfl; have hcz49_1 : w47.cell? ⟨gb248, 1, none⟩ = some (.int .i64 t252) := (blk_cell BK248.out 1).trans rfl; have hfz49_0 := blk_frozen BK248.out 0; have hfz49_1 := blk_frozen BK248.out 1; have hcz50_0 : w47.cell? ⟨gb249, 0, none⟩ = some (.int .i64 t253) := (blk_cell BK249.out 0).trans rfl; have hcz50_1 : w47.cell? ⟨gb249, 1, none⟩ = some (.int .i64 t254) := (blk_cell BK249.out 1).trans rfl; have hfz50_0 := blk_frozen BK249.out 0; have hfz50_1 := blk_frozen BK249.out 1) | (go_at_call 15; (with_reducible refine (border_Beside.calls k (wrap64 (1 + (Int.tmod (wrap64 ((Int.tmod a0 4) + 4)) 4))) t251 t252 t253 t254 t257 _ A26.out).mono ?_); rintro e w51 ⟨rfl, hb⟩; have n0_ := Aside0.mk (blk_below (g := gb248) (o := .cells #[.int .i64 t251, .int .i64 t252] 23 (0, 0)) (by (with_reducible repeat (first | refine blk_drewN ?_ _ | refine blk_drew ?_ | refine blk_alloc ?_ _)); exact BK248.out) hb); have n1_ := Aside0.mk (blk_below (g := gb249) (o := .cells #[.int .i64 t253, .int .i64 t254] 23 (0, 0)) (by (with_reducible repeat (first | refine blk_drewN ?_ _ | refine blk_drew ?_ | refine blk_alloc ?_ _)); exact BK249.out) hb); have n2_ := Aside0.mk (blk_below (g := gb250) (o := .cells #[.int .i64 (wrap64 (1 + (Int.tmod (wrap64 ((Int.tmod a0 4) + 4)) 4)))] 27 (0, 0)) (by (with_reducible repeat (first | refine blk_drewN ?_ _ | refine blk_drew ?_ | refine blk_alloc ?_ _)); exact BK250.out) hb); have n3_ := Aside0.mk (below_step (by repeat (first | (with_reducible first | exact HB.out | apply below_alloc | apply pw_below_drewN | apply below_drew1 | refine below_set ?_ GE248.out | refine below_set ?_ GE249.out | refine below_set ?_ GE250.out) | exact HB.out)) hb); clear BK248; clear BK249; clear BK250; clear HB; have BK248 := n0_; have BK249 := n1_; have BK250 := n2_; have HB := n3_; clear n0_ n1_ n2_ n3_; (try clear hb); (try clear hb2); (try clear hk); (try clear hi); have hcz52_0 : w51.cell? ⟨gb250, 0, none⟩ = some (.int .i64 (wrap64 (1 + (Int.tmod (wrap64 ((Int.tmod a0 4) + 4)) 4)))) := (blk_cell BK250.out 0).trans rfl; have hfz52_0 := blk_frozen BK250.out 0; have hcz53_0 : w51.cell? ⟨gb249, 0, none⟩ = some (.int .i64 t253) := (blk_cell BK249.out 0).trans rfl; have hcz53_1 : w51.cell? ⟨gb249, 1, none⟩ = some (.int .i64 t254) := (blk_cell BK249.out 1).trans rfl; have hfz53_0 := blk_frozen BK249.out 0; have hfz53_1 := blk_frozen BK249.out 1; have hcz54_0 : w51.cell? ⟨gb248, 0, none⟩ = some (.int .i64 t251) := (blk_cell BK248.out 0).trans rfl; have hcz54_1 : w51.cell? ⟨gb248, 1, none⟩ = some (.int .i64 t252) := (blk_cell BK248.out 1).trans rfl; have hfz54_0 := blk_frozen BK248.out 0; have hfz54_1 := blk_frozen BK248.out 1) | (go_at_call 15; (with_reducible refine (border_Beside.calls k (wrap64 (1 + (Int.tmod (wrap64 ((Int.tmod a0 4) + 4)) 4))) t253 t254 t251 t252 t258 _ A39.out).mono ?_); rintro e w55 ⟨rfl, hb⟩; have n0_ := Aside0.mk (blk_below (g := gb248) (o := .cells #[.int .i64 t251, .int .i64 t252] 23 (0, 0)) (by (with_reducible repeat (first | refine blk_drewN ?_ _ | refine blk_drew ?_ | refine blk_alloc ?_ _)); exact BK248.out) hb); have n1_ := Aside0.mk (blk_below (g := gb249) (o := .cells #[.int .i64 t253, .int .i64 t254] 23 (0, 0)) (by (with_reducible repeat (first | refine blk_drewN ?_ _ | refine blk_drew ?_ | refine blk_alloc ?_ _)); exact BK249.out) hb); have n2_ := Aside0.mk (blk_below (g := gb250) (o := .cells #[.int .i64 (wrap64 (1 + (Int.tmod (wrap64 ((Int.tmod a0 4) + 4)) 4)))] 27 (0, 0)) (by (with_reducible repeat (first | refine blk_drewN ?_ _ | refine blk_drew ?_ | refine blk_alloc ?_ _)); exact BK250.out) hb); have n3_ := Aside0.mk (below_step (by repeat (first | (with_reducible first | exact HB.out | apply below_alloc | apply pw_below_drewN | apply below_drew1 | refine below_set ?_ GE248.out | refine below_set ?_ GE249.out | refine below_set ?_ GE250.out) | exact HB.out)) hb); clear BK248; clear BK249; clear BK250; clear HB; have BK248 := n0_; have BK249 := n1_; have BK250 := n2_; have HB := n3_; clear n0_ n1_ n2_ n3_; (try clear hb); (try clear hb2); (try clear hk); (try clear hi)))
          go_meet
          case rel => exact ⟨_, (true), (by first | rfl | (simp; done) | (simp [*]; done)), H', ⟨by first | omega | exact Nat.le_refl _⟩, ⟨by (with_reducible repeat (first | refine blk_drewN ?_ _ | refine blk_drew ?_ | refine blk_alloc ?_ _)); exact BK248.out⟩, ⟨by (with_reducible repeat (first | refine blk_drewN ?_ _ | refine blk_drew ?_ | refine blk_alloc ?_ _)); exact BK249.out⟩, ⟨by (with_reducible repeat (first | refine blk_drewN ?_ _ | refine blk_drew ?_ | refine blk_alloc ?_ _)); exact BK250.out⟩, ⟨by repeat (first | (with_reducible first | exact HB.out | apply below_alloc | apply pw_below_drewN | apply below_drew1 | refine below_set ?_ GE248.out | refine below_set ?_ GE249.out | refine below_set ?_ GE250.out) | exact HB.out)⟩⟩
        · rw [if_neg c40] at H
          have c40b0 : (t258 != (decide (t255 > 0))) = false := by simpa using c40
          (try (have c40b1 : decide (t258 = (decide (t255 > 0))) = true := by simpa using c40))
          (try (have c40b2 : (t258 == (decide (t255 > 0))) = true := by simpa using c40))
          clear c40
          replace H := Option.bind_eq_some_iff.mp H
          obtain ⟨t259, A560, H⟩ := H
          replace H : (glebelaw06_BorderCells.j0 k t255 (!t259) t251 t252 t253 t254 (wrap64 (1 + (Int.tmod (wrap64 ((Int.tmod a0 4) + 4)) 4)))) = some r := H
          have A56 := Aside0.mk A560
          clear A560
          have H' := Aside0.mk H
          clear H
          have hnb57 := NB250_248.out
          have hnc57 := NB248_250.out
          have hnb58 := NB250_249.out
          have hnc58 := NB249_250.out
          have hcz59_0 : w23.cell? ⟨gb250, 0, none⟩ = some (.int .i64 (wrap64 (1 + (Int.tmod (wrap64 ((Int.tmod a0 4) + 4)) 4)))) := (blk_cell BK250.out 0).trans rfl
          have hfz59_0 := blk_frozen BK250.out 0
          have hnb60 := NB249_248.out
          have hnc60 := NB248_249.out
          have hcz61_0 : w23.cell? ⟨gb249, 0, none⟩ = some (.int .i64 t253) := (blk_cell BK249.out 0).trans rfl
          have hcz61_1 : w23.cell? ⟨gb249, 1, none⟩ = some (.int .i64 t254) := (blk_cell BK249.out 1).trans rfl
          have hfz61_0 := blk_frozen BK249.out 0
          have hfz61_1 := blk_frozen BK249.out 1
          have hcz62_0 : w23.cell? ⟨gb248, 0, none⟩ = some (.int .i64 t251) := (blk_cell BK248.out 0).trans rfl
          have hcz62_1 : w23.cell? ⟨gb248, 1, none⟩ = some (.int .i64 t252) := (blk_cell BK248.out 1).trans rfl
          have hfz62_0 := blk_frozen BK248.out 0
          have hfz62_1 := blk_frozen BK248.out 1
          go_wp2_with (first | ((with_reducible refine gate_callee (f := 13) rfl ?_); refine goesL_ (some 30) rfl rfl Try.func13 (by kernel_rfl) rfl #[.agg #[.int .i64 (wrap64 (1 + (Int.tmod (wrap64 ((Int.tmod a0 4) + 4)) 4)))], .agg #[.int .i64 t253, .int .i64 t254], .agg #[.int .i64 t251, .int .i64 t252]] rfl (by (try simp only [List.map_toArray, List.map_cons, List.map_nil]); first | done | rfl | (simp only [List.length_drop, List.length_take]; rfl)) ?_; (with_reducible refine (border_Length.calls k (wrap64 (1 + (Int.tmod (wrap64 ((Int.tmod a0 4) + 4)) 4))) t253 t254 t251 t252 t256 _ A24.out).mono ?_); rintro e w63 ⟨rfl, hb⟩; refine ⟨_, rfl, ?_⟩; have n0_ := Aside0.mk (blk_below (g := gb248) (o := .cells #[.int .i64 t251, .int .i64 t252] 23 (0, 0)) (by (with_reducible repeat (first | refine blk_drewN ?_ _ | refine blk_drew ?_ | refine blk_alloc ?_ _)); exact BK248.out) hb); have n1_ := Aside0.mk (blk_below (g := gb249) (o := .cells #[.int .i64 t253, .int .i64 t254] 23 (0, 0)) (by (with_reducible repeat (first | refine blk_drewN ?_ _ | refine blk_drew ?_ | refine blk_alloc ?_ _)); exact BK249.out) hb); have n2_ := Aside0.mk (blk_below (g := gb250) (o := .cells #[.int .i64 (wrap64 (1 + (Int.tmod (wrap64 ((Int.tmod a0 4) + 4)) 4)))] 27 (0, 0)) (by (with_reducible repeat (first | refine blk_drewN ?_ _ | refine blk_drew ?_ | refine blk_alloc ?_ _)); exact BK250.out) hb); have n3_ := Aside0.mk (below_step (by repeat (first | (with_reducible first | exact HB.out | apply below_alloc | apply pw_below_drewN | apply below_drew1 | refine below_set ?_ GE248.out | refine below_set ?_ GE249.out | refine below_set ?_ GE250.out) | exact HB.out)) hb); clear BK248; clear BK249; clear BK250; clear HB; have BK248 := n0_; have BK249 := n1_; have BK250 := n2_; have HB := n3_; clear n0_ n1_ n2_ n3_; (try clear hb); (try clear hb2); (try clear hk); (try clear hi); have hcz64_0 : w63.cell? ⟨gb250, 0, none⟩ = some (.int .i64 (wrap64 (1 + (Int.tmod (wrap64 ((Int.tmod a0 4) + 4)) 4)))) := (blk_cell BK250.out 0).trans rfl; have hfz64_0 := blk_frozen BK250.out 0; have hcz65_0 : w63.cell? ⟨gb248, 0, none⟩ = some (.int .i64 t251) := (blk_cell BK248.out 0).trans rfl; have hcz65_1 : w63.cell? ⟨gb248, 1, none⟩ = some (.int .i64 t252) := (blk_cell BK248.out 1).trans rfl; have hfz65_0 := blk_frozen BK248.out 0; have hfz65_1 := blk_frozen BK248.out 1; have hcz66_0 : w63.cell? ⟨gb249, 0, none⟩ = some (.int .i64 t253) := (blk_cell BK249.out 0).trans rfl; have hcz66_1 : w63.cell? ⟨gb249, 1, none⟩ = some (.int .i64 t254) := (blk_cell BK249.out 1).trans rfl; have hfz66_0 := blk_frozen BK249.out 0; have hfz66_1 := blk_frozen BK249.out 1) | (go_at_call 15; (with_reducible refine (border_Beside.calls k (wrap64 (1 + (Int.tmod (wrap64 ((Int.tmod a0 4) + 4)) 4))) t251 t252 t253 t254 t257 _ A26.out).mono ?_); rintro e w67 ⟨rfl, hb⟩; have n0_ := Aside0.mk (blk_below (g := gb248) (o := .cells #[.int .i64 t251, .int .i64 t252] 23 (0, 0)) (by (with_reducible repeat (first | refine blk_drewN ?_ _ | refine blk_drew ?_ | refine blk_alloc ?_ _)); exact BK248.out) hb); have n1_ := Aside0.mk (blk_below (g := gb249) (o := .cells #[.int .i64 t253, .int .i64 t254] 23 (0, 0)) (by (with_reducible repeat (first | refine blk_drewN ?_ _ | refine blk_drew ?_ | refine blk_alloc ?_ _)); exact BK249.out) hb); have n2_ := Aside0.mk (blk_below (g := gb250) (o := .cells #[.int .i64 (wrap64 (1 + (Int.tmod (wrap64 ((Int.tmod a0 4) + 4)) 4)))] 27 (0, 0)) (by (with_reducible repeat (first | refine blk_drewN ?_ _ | refine blk_drew ?_ | refine blk_alloc ?_ _)); exact BK250.out) hb); have n3_ := Aside0.mk (below_step (by repeat (first | (with_reducible first | exact HB.out | apply below_alloc | apply pw_below_drewN | apply below_drew1 | refine below_set ?_ GE248.out | refine below_set ?_ GE249.out | refine below_set ?_ GE250.out) | exact HB.out)) hb); clear BK248; clear BK249; clear BK250; clear HB; have BK248 := n0_; have BK249 := n1_; have BK250 := n2_; have HB := n3_; clear n0_ n1_ n2_ n3_; (try clear hb); (try clear hb2); (try clear hk); (try clear hi); have hcz68_0 : w67.cell? ⟨gb250, 0, none⟩ = some (.int .i64 (wrap64 (1 + (Int.tmod (wrap64 ((Int.tmod a0 4) + 4)) 4)))) := (blk_cell BK250.out 0).trans rfl; have hfz68_0 := blk_frozen BK250.out 0; have hcz69_0 : w67.cell? ⟨gb249, 0, none⟩ = some (.int .i64 t253) := (blk_cell BK249.out 0).trans rfl; have hcz69_1 : w67.cell? ⟨gb249, 1, none⟩ = some (.int .i64 t254) := (blk_cell BK249.out 1).trans rfl; have hfz69_0 := blk_frozen BK249.out 0; have hfz69_1 := blk_frozen BK249.out 1; have hcz70_0 : w67.cell? ⟨gb248, 0, none⟩ = some (.int .i64 t251) := (blk_cell BK248.out 0).trans rfl; have hcz70_1 : w67.cell? ⟨gb248, 1, none⟩ = some (.int .i64 t252) := (blk_cell BK248.out 1).trans rfl; have hfz70_0 := blk_frozen BK248.out 0; have hfz70_1 := blk_frozen BK248.out 1) | (go_at_call 15; (with_reducible refine (border_Beside.calls k (wrap64 (1 + (Int.tmod (wrap64 ((Int.tmod a0 4) + 4)) 4))) t253 t254 t251 t252 t258 _ A39.out).mono ?_); rintro e w71 ⟨rfl, hb⟩; have n0_ := Aside0.mk (blk_below (g := gb248) (o := .cells #[.int .i64 t251, .int .i64 t252] 23 (0, 0)) (by (with_reducible repeat (first | refine blk_drewN ?_ _ | refine blk_drew ?_ | refine blk_alloc ?_ _)); exact BK248.out) hb); have n1_ := Aside0.mk (blk_below (g := gb249) (o := .cells #[.int .i64 t253, .int .i64 t254] 23 (0, 0)) (by (with_reducible repeat (first | refine blk_drewN ?_ _ | refine blk_drew ?_ | refine blk_alloc ?_ _)); exact BK249.out) hb); have n2_ := Aside0.mk (blk_below (g := gb250) (o := .cells #[.int .i64 (wrap64 (1 + (Int.tmod (wrap64 ((Int.tmod a0 4) + 4)) 4)))] 27 (0, 0)) (by (with_reducible repeat (first | refine blk_drewN ?_ _ | refine blk_drew ?_ | refine blk_alloc ?_ _)); exact BK250.out) hb); have n3_ := Aside0.mk (below_step (by repeat (first | (with_reducible first | exact HB.out | apply below_alloc | apply pw_below_drewN | apply below_drew1 | refine below_set ?_ GE248.out | refine below_set ?_ GE249.out | refine below_set ?_ GE250.out) | exact HB.out)) hb); clear BK248; clear BK249; clear BK250; clear HB; have BK248 := n0_; have BK249 := n1_; have BK250 := n2_; have HB := n3_; clear n0_ n1_ n2_ n3_; (try clear hb); (try clear hb2); (try clear hk); (try clear hi)) | (go_at_call 19; (with_reducible refine (glebelaw06_knows.calls k  t259 _ A56.out).mono ?_); rintro e w72 ⟨rfl, hb⟩; have n0_ := Aside0.mk (blk_below (g := gb248) (o := .cells #[.int .i64 t251, .int .i64 t252] 23 (0, 0)) (by (with_reducible repeat (first | refine blk_drewN ?_ _ | refine blk_drew ?_ | refine blk_alloc ?_ _)); exact BK248.out) hb); have n1_ := Aside0.mk (blk_below (g := gb249) (o := .cells #[.int .i64 t253, .int .i64 t254] 23 (0, 0)) (by (with_reducible repeat (first | refine blk_drewN ?_ _ | refine blk_drew ?_ | refine blk_alloc ?_ _)); exact BK249.out) hb); have n2_ := Aside0.mk (blk_below (g := gb250) (o := .cells #[.int .i64 (wrap64 (1 + (Int.tmod (wrap64 ((Int.tmod a0 4) + 4)) 4)))] 27 (0, 0)) (by (with_reducible repeat (first | refine blk_drewN ?_ _ | refine blk_drew ?_ | refine blk_alloc ?_ _)); exact BK250.out) hb); have n3_ := Aside0.mk (below_step (by repeat (first | (with_reducible first | exact HB.out | apply below_alloc | apply pw_below_drewN | apply below_drew1 | refine below_set ?_ GE248.out | refine below_set ?_ GE249.out | refine below_set ?_ GE250.out) | exact HB.out)) hb); clear BK248; clear BK249; clear BK250; clear HB; have BK248 := n0_; have BK249 := n1_; have BK250 := n2_; have HB := n3_; clear n0_ n1_ n2_ n3_; (try clear hb); (try clear hb2); (try clear hk); (try clear hi)))
          go_meet
          case rel => exact ⟨_, (!t259), (by first | rfl | (simp; done) | (simp [*]; done)), H', ⟨by first | omega | exact Nat.le_refl _⟩, ⟨by (with_reducible repeat (first | refine blk_drewN ?_ _ | refine blk_drew ?_ | refine blk_alloc ?_ _)); exact BK248.out⟩, ⟨by (with_reducible repeat (first | refine blk_drewN ?_ _ | refine blk_drew ?_ | refine blk_alloc ?_ _)); exact BK249.out⟩, ⟨by (with_reducible repeat (first | refine blk_drewN ?_ _ | refine blk_drew ?_ | refine blk_alloc ?_ _)); exact BK250.out⟩, ⟨by repeat (first | (with_reducible first | exact HB.out | apply below_alloc | apply pw_below_drewN | apply below_drew1 | refine below_set ?_ GE248.out | refine below_set ?_ GE249.out | refine below_set ?_ GE250.out) | exact HB.out)⟩⟩
    · rw [if_neg c25] at H
      have c25b0 : (t255 == t256) = false := beq_eq_false_iff_ne.mpr c25
      have c25b1 : (t255 != t256) = true := bne_iff_ne.mpr c25
      (first | rw [c25b0] | (simp only [i64_w, i32_w]; rw [c25b0]) | skip)
      have H' := Aside0.mk H
      clear H
      have hnb73 := NB250_248.out
      have hnc73 := NB248_250.out
      have hnb74 := NB250_249.out
      have hnc74 := NB249_250.out
      have hcz75_0 : w23.cell? ⟨gb250, 0, none⟩ = some (.int .i64 (wrap64 (1 + (Int.tmod (wrap64 ((Int.tmod a0 4) + 4)) 4)))) := (blk_cell BK250.out 0).trans rfl
      have hfz75_0 := blk_frozen BK250.out 0
      have hnb76 := NB249_248.out
      have hnc76 := NB248_249.out
      have hcz77_0 : w23.cell? ⟨gb249, 0, none⟩ = some (.int .i64 t253) := (blk_cell BK249.out 0).trans rfl
      have hcz77_1 : w23.cell? ⟨gb249, 1, none⟩ = some (.int .i64 t254) := (blk_cell BK249.out 1).trans rfl
      have hfz77_0 := blk_frozen BK249.out 0
      have hfz77_1 := blk_frozen BK249.out 1
      have hcz78_0 : w23.cell? ⟨gb248, 0, none⟩ = some (.int .i64 t251) := (blk_cell BK248.out 0).trans rfl
      have hcz78_1 : w23.cell? ⟨gb248, 1, none⟩ = some (.int .i64 t252) := (blk_cell BK248.out 1).trans rfl
      have hfz78_0 := blk_frozen BK248.out 0
      have hfz78_1 := blk_frozen BK248.out 1
      go_wp2_with (first | ((with_reducible refine gate_callee (f := 13) rfl ?_); refine goesL_ (some 30) rfl rfl Try.func13 (by kernel_rfl) rfl #[.agg #[.int .i64 (wrap64 (1 + (Int.tmod (wrap64 ((Int.tmod a0 4) + 4)) 4)))], .agg #[.int .i64 t253, .int .i64 t254], .agg #[.int .i64 t251, .int .i64 t252]] rfl (by (try simp only [List.map_toArray, List.map_cons, List.map_nil]); first | done | rfl | (simp only [List.length_drop, List.length_take]; rfl)) ?_; (with_reducible refine (border_Length.calls k (wrap64 (1 + (Int.tmod (wrap64 ((Int.tmod a0 4) + 4)) 4))) t253 t254 t251 t252 t256 _ A24.out).mono ?_); rintro e w79 ⟨rfl, hb⟩; refine ⟨_, rfl, ?_⟩; have n0_ := Aside0.mk (blk_below (g := gb248) (o := .cells #[.int .i64 t251, .int .i64 t252] 23 (0, 0)) (by (with_reducible repeat (first | refine blk_drewN ?_ _ | refine blk_drew ?_ | refine blk_alloc ?_ _)); exact BK248.out) hb); have n1_ := Aside0.mk (blk_below (g := gb249) (o := .cells #[.int .i64 t253, .int .i64 t254] 23 (0, 0)) (by (with_reducible repeat (first | refine blk_drewN ?_ _ | refine blk_drew ?_ | refine blk_alloc ?_ _)); exact BK249.out) hb); have n2_ := Aside0.mk (blk_below (g := gb250) (o := .cells #[.int .i64 (wrap64 (1 + (Int.tmod (wrap64 ((Int.tmod a0 4) + 4)) 4)))] 27 (0, 0)) (by (with_reducible repeat (first | refine blk_drewN ?_ _ | refine blk_drew ?_ | refine blk_alloc ?_ _)); exact BK250.out) hb); have n3_ := Aside0.mk (below_step (by repeat (first | (with_reducible first | exact HB.out | apply below_alloc | apply pw_below_drewN | apply below_drew1 | refine below_set ?_ GE248.out | refine below_set ?_ GE249.out | refine below_set ?_ GE250.out) | exact HB.out)) hb); clear BK248; clear BK249; clear BK250; clear HB; have BK248 := n0_; have BK249 := n1_; have BK250 := n2_; have HB := n3_; clear n0_ n1_ n2_ n3_; (try clear hb); (try clear hb2); (try clear hk); (try clear hi)))
      go_meet
      case rel => exact ⟨_, (true), (by first | rfl | (simp; done) | (simp [*]; done)), H', ⟨by first | omega | exact Nat.le_refl _⟩, ⟨by (with_reducible repeat (first | refine blk_drewN ?_ _ | refine blk_drew ?_ | refine blk_alloc ?_ _)); exact BK248.out⟩, ⟨by (with_reducible repeat (first | refine blk_drewN ?_ _ | refine blk_drew ?_ | refine blk_alloc ?_ _)); exact BK249.out⟩, ⟨by (with_reducible repeat (first | refine blk_drewN ?_ _ | refine blk_drew ?_ | refine blk_alloc ?_ _)); exact BK250.out⟩, ⟨by repeat (first | (with_reducible first | exact HB.out | apply below_alloc | apply pw_below_drewN | apply below_drew1 | refine below_set ?_ GE248.out | refine below_set ?_ GE249.out | refine below_set ?_ GE250.out) | exact HB.out)⟩⟩
  case rest =>
    clear HC7
    try clear c1
    try clear c2
    try clear p2
    try clear c3
    try clear c4
    try clear c5
    try clear c6
    try clear p6
    try clear c7
    try clear c11
    try clear c12
    try clear c13
    try clear c14
    try clear c20
    try clear c25
    try clear c25b0
    try clear c25b1
    try clear c27
    try clear c27b0
    try clear c27b1
    try clear c27b2
    try clear c28
    try clear c29
    try clear c31
    try clear c40
    try clear c40b0
    try clear c40b1
    try clear c40b2
    try clear c41
    try clear c42
    try clear c44
    try clear c57
    try clear c58
    try clear c60
    try clear p64
    try clear c73
    try clear c74
    try clear c76
    try clear hcz13_0
    try clear hcz15_0
    try clear hcz15_1
    try clear hcz17_0
    try clear hcz17_1
    try clear hcz18_0
    try clear hcz18_1
    try clear hcz20_0
    try clear hcz20_1
    try clear hcz21_0
    try clear hcz22_0
    try clear hcz22_1
    try clear hcz30_0
    try clear hcz32_0
    try clear hcz32_1
    try clear hcz33_0
    try clear hcz33_1
    try clear hcz35_0
    try clear hcz36_0
    try clear hcz36_1
    try clear hcz37_0
    try clear hcz37_1
    try clear hcz43_0
    try clear hcz45_0
    try clear hcz45_1
    try clear hcz46_0
    try clear hcz46_1
    try clear hcz48_0
    try clear hcz49_0
    try clear hcz49_1
    try clear hcz50_0
    try clear hcz50_1
    try clear hcz52_0
    try clear hcz53_0
    try clear hcz53_1
    try clear hcz54_0
    try clear hcz54_1
    try clear hcz59_0
    try clear hcz61_0
    try clear hcz61_1
    try clear hcz62_0
    try clear hcz62_1
    try clear hcz64_0
    try clear hcz65_0
    try clear hcz65_1
    try clear hcz66_0
    try clear hcz66_1
    try clear hcz68_0
    try clear hcz69_0
    try clear hcz69_1
    try clear hcz70_0
    try clear hcz70_1
    try clear hcz75_0
    try clear hcz77_0
    try clear hcz77_1
    try clear hcz78_0
    try clear hcz78_1
    try clear hfz13_0
    try clear hfz15_0
    try clear hfz15_1
    try clear hfz17_0
    try clear hfz17_1
    try clear hfz18_0
    try clear hfz18_1
    try clear hfz20_0
    try clear hfz20_1
    try clear hfz21_0
    try clear hfz22_0
    try clear hfz22_1
    try clear hfz30_0
    try clear hfz32_0
    try clear hfz32_1
    try clear hfz33_0
    try clear hfz33_1
    try clear hfz35_0
    try clear hfz36_0
    try clear hfz36_1
    try clear hfz37_0
    try clear hfz37_1
    try clear hfz43_0
    try clear hfz45_0
    try clear hfz45_1
    try clear hfz46_0
    try clear hfz46_1
    try clear hfz48_0
    try clear hfz49_0
    try clear hfz49_1
    try clear hfz50_0
    try clear hfz50_1
    try clear hfz52_0
    try clear hfz53_0
    try clear hfz53_1
    try clear hfz54_0
    try clear hfz54_1
    try clear hfz59_0
    try clear hfz61_0
    try clear hfz61_1
    try clear hfz62_0
    try clear hfz62_1
    try clear hfz64_0
    try clear hfz65_0
    try clear hfz65_1
    try clear hfz66_0
    try clear hfz66_1
    try clear hfz68_0
    try clear hfz69_0
    try clear hfz69_1
    try clear hfz70_0
    try clear hfz70_1
    try clear hfz75_0
    try clear hfz77_0
    try clear hfz77_1
    try clear hfz78_0
    try clear hfz78_1
    obtain ⟨kq, x53_6, rfl, HA, HJ6, BK248, BK249, BK250, HB⟩ := hcut
    cases kq with
    | zero => exact absurd HA.out (by simp [glebelaw06_BorderCells.j0])
    | succ kj6 =>
      have H := HA.out
      clear HA
      simp only [glebelaw06_BorderCells.j0] at H
      by_cases c80 : x53_6 = true
      · subst c80
        have H1 : (none) = some r := by rw [if_pos rfl] at H; exact H
        clear H
        have H := H1
        clear H1
        exact absurd H (by simp)
      · replace c80 := Bool.eq_false_iff.mpr c80
        subst c80
        have H1 : ((path_Meet.f t251 t252 t253 t254).bind fun t260 => (if t260 = true then (some (t255 == 0)) else ((glebelaw06_cells.f kj6 (wrap64 (1 + (Int.tmod (wrap64 ((Int.tmod a0 4) + 4)) 4))) t251 t252 t253 t254).bind fun t261 => (some (t255 == t261))))) = some r := by rw [if_neg (show ¬ (false = true) by decide)] at H; exact H
        clear H
        have H := H1
        clear H1
        replace H := Option.bind_eq_some_iff.mp H
        obtain ⟨t260, A810, H⟩ := H
        replace H : (if t260 = true then (some (t255 == 0)) else ((glebelaw06_cells.f kj6 (wrap64 (1 + (Int.tmod (wrap64 ((Int.tmod a0 4) + 4)) 4))) t251 t252 t253 t254).bind fun t261 => (some (t255 == t261)))) = some r := H
        have A81 := Aside0.mk A810
        clear A810
        by_cases c82 : t260 = true
        · subst c82
          have H1 : (some (t255 == 0)) = some r := by rw [if_pos rfl] at H; exact H
          clear H
          have H := H1
          clear H1
          obtain rfl := Option.some.inj H
          have hnb83 := NB248_249.out
          have hnc83 := NB249_248.out
          have hnb84 := NB248_250.out
          have hnc84 := NB250_248.out
          have hcz85_0 : wc.cell? ⟨gb248, 0, none⟩ = some (.int .i64 t251) := (blk_cell BK248.out 0).trans rfl
          have hcz85_1 : wc.cell? ⟨gb248, 1, none⟩ = some (.int .i64 t252) := (blk_cell BK248.out 1).trans rfl
          have hfz85_0 := blk_frozen BK248.out 0
          have hfz85_1 := blk_frozen BK248.out 1
          have hnb86 := NB249_250.out
          have hnc86 := NB250_249.out
          have hcz87_0 : wc.cell? ⟨gb249, 0, none⟩ = some (.int .i64 t253) := (blk_cell BK249.out 0).trans rfl
          have hcz87_1 : wc.cell? ⟨gb249, 1, none⟩ = some (.int .i64 t254) := (blk_cell BK249.out 1).trans rfl
          have hfz87_0 := blk_frozen BK249.out 0
          have hfz87_1 := blk_frozen BK249.out 1
          go_wp2_with (first | ((with_reducible refine gate_callee (f := 22) rfl ?_); refine goesL_ (some 56) rfl rfl Try.func22 (by kernel_rfl) rfl #[.agg #[.int .i64 t251, .int .i64 t252], .agg #[.int .i64 t253, .int .i64 t254]] rfl (by (try simp only [List.map_toArray, List.map_cons, List.map_nil]); first | done | rfl | (simp only [List.length_drop, List.length_take]; rfl)) ?_; (with_reducible refine (path_Meet.calls t251 t252 t253 t254 true _ A81.out).mono ?_); rintro e w88 ⟨rfl, hb⟩; refine ⟨_, rfl, ?_⟩; have n0_ := Aside0.mk (blk_below (g := gb248) (o := .cells #[.int .i64 t251, .int .i64 t252] 23 (0, 0)) (by (with_reducible repeat (first | refine blk_drewN ?_ _ | refine blk_drew ?_ | refine blk_alloc ?_ _)); exact BK248.out) hb); have n1_ := Aside0.mk (blk_below (g := gb249) (o := .cells #[.int .i64 t253, .int .i64 t254] 23 (0, 0)) (by (with_reducible repeat (first | refine blk_drewN ?_ _ | refine blk_drew ?_ | refine blk_alloc ?_ _)); exact BK249.out) hb); have n2_ := Aside0.mk (blk_below (g := gb250) (o := .cells #[.int .i64 (wrap64 (1 + (Int.tmod (wrap64 ((Int.tmod a0 4) + 4)) 4)))] 27 (0, 0)) (by (with_reducible repeat (first | refine blk_drewN ?_ _ | refine blk_drew ?_ | refine blk_alloc ?_ _)); exact BK250.out) hb); have n3_ := Aside0.mk (below_step (by repeat (first | (with_reducible first | exact HB.out | apply below_alloc | apply pw_below_drewN | apply below_drew1 | refine below_set ?_ GE248.out | refine below_set ?_ GE249.out | refine below_set ?_ GE250.out) | exact HB.out)) hb); clear BK248; clear BK249; clear BK250; clear HB; have BK248 := n0_; have BK249 := n1_; have BK250 := n2_; have HB := n3_; clear n0_ n1_ n2_ n3_; (try clear hb); (try clear hb2); (try clear hk); (try clear hi)))
          go_ret
          exact ⟨by first | rfl | (simp [errW_none, errW_some] <;> rfl) | (simp [*, errW_none, errW_some] <;> rfl), by repeat (first | (with_reducible first | exact HB.out | apply below_alloc | apply pw_below_drewN | apply below_drew1 | refine below_set ?_ GE248.out | refine below_set ?_ GE249.out | refine below_set ?_ GE250.out) | exact HB.out)⟩
        · replace c82 := Bool.eq_false_iff.mpr c82
          subst c82
          have H1 : ((glebelaw06_cells.f kj6 (wrap64 (1 + (Int.tmod (wrap64 ((Int.tmod a0 4) + 4)) 4))) t251 t252 t253 t254).bind fun t261 => (some (t255 == t261))) = some r := by rw [if_neg (show ¬ (false = true) by decide)] at H; exact H
          clear H
          have H := H1
          clear H1
          replace H := Option.bind_eq_some_iff.mp H
          obtain ⟨t261, A890, H⟩ := H
          replace H : (some (t255 == t261)) = some r := H
          have A89 := Aside0.mk A890
          clear A890
          obtain rfl := Option.some.inj H
          have hnb90 := NB248_249.out
          have hnc90 := NB249_248.out
          have hnb91 := NB248_250.out
          have hnc91 := NB250_248.out
          have hcz92_0 : wc.cell? ⟨gb248, 0, none⟩ = some (.int .i64 t251) := (blk_cell BK248.out 0).trans rfl
          have hcz92_1 : wc.cell? ⟨gb248, 1, none⟩ = some (.int .i64 t252) := (blk_cell BK248.out 1).trans rfl
          have hfz92_0 := blk_frozen BK248.out 0
          have hfz92_1 := blk_frozen BK248.out 1
          have hnb93 := NB249_250.out
          have hnc93 := NB250_249.out
          have hcz94_0 : wc.cell? ⟨gb249, 0, none⟩ = some (.int .i64 t253) := (blk_cell BK249.out 0).trans rfl
          have hcz94_1 : wc.cell? ⟨gb249, 1, none⟩ = some (.int .i64 t254) := (blk_cell BK249.out 1).trans rfl
          have hfz94_0 := blk_frozen BK249.out 0
          have hfz94_1 := blk_frozen BK249.out 1
          go_wp2_with (first | ((with_reducible refine gate_callee (f := 22) rfl ?_); refine goesL_ (some 56) rfl rfl Try.func22 (by kernel_rfl) rfl #[.agg #[.int .i64 t251, .int .i64 t252], .agg #[.int .i64 t253, .int .i64 t254]] rfl (by (try simp only [List.map_toArray, List.map_cons, List.map_nil]); first | done | rfl | (simp only [List.length_drop, List.length_take]; rfl)) ?_; (with_reducible refine (path_Meet.calls t251 t252 t253 t254 false _ A81.out).mono ?_); rintro e w95 ⟨rfl, hb⟩; refine ⟨_, rfl, ?_⟩; have n0_ := Aside0.mk (blk_below (g := gb248) (o := .cells #[.int .i64 t251, .int .i64 t252] 23 (0, 0)) (by (with_reducible repeat (first | refine blk_drewN ?_ _ | refine blk_drew ?_ | refine blk_alloc ?_ _)); exact BK248.out) hb); have n1_ := Aside0.mk (blk_below (g := gb249) (o := .cells #[.int .i64 t253, .int .i64 t254] 23 (0, 0)) (by (with_reducible repeat (first | refine blk_drewN ?_ _ | refine blk_drew ?_ | refine blk_alloc ?_ _)); exact BK249.out) hb); have n2_ := Aside0.mk (blk_below (g := gb250) (o := .cells #[.int .i64 (wrap64 (1 + (Int.tmod (wrap64 ((Int.tmod a0 4) + 4)) 4)))] 27 (0, 0)) (by (with_reducible repeat (first | refine blk_drewN ?_ _ | refine blk_drew ?_ | refine blk_alloc ?_ _)); exact BK250.out) hb); have n3_ := Aside0.mk (below_step (by repeat (first | (with_reducible first | exact HB.out | apply below_alloc | apply pw_below_drewN | apply below_drew1 | refine below_set ?_ GE248.out | refine below_set ?_ GE249.out | refine below_set ?_ GE250.out) | exact HB.out)) hb); clear BK248; clear BK249; clear BK250; clear HB; have BK248 := n0_; have BK249 := n1_; have BK250 := n2_; have HB := n3_; clear n0_ n1_ n2_ n3_; (try clear hb); (try clear hb2); (try clear hk); (try clear hi); have hcz96_0 : w95.cell? ⟨gb250, 0, none⟩ = some (.int .i64 (wrap64 (1 + (Int.tmod (wrap64 ((Int.tmod a0 4) + 4)) 4)))) := (blk_cell BK250.out 0).trans rfl; have hfz96_0 := blk_frozen BK250.out 0; have hcz97_0 : w95.cell? ⟨gb248, 0, none⟩ = some (.int .i64 t251) := (blk_cell BK248.out 0).trans rfl; have hcz97_1 : w95.cell? ⟨gb248, 1, none⟩ = some (.int .i64 t252) := (blk_cell BK248.out 1).trans rfl; have hfz97_0 := blk_frozen BK248.out 0; have hfz97_1 := blk_frozen BK248.out 1; have hcz98_0 : w95.cell? ⟨gb249, 0, none⟩ = some (.int .i64 t253) := (blk_cell BK249.out 0).trans rfl; have hcz98_1 : w95.cell? ⟨gb249, 1, none⟩ = some (.int .i64 t254) := (blk_cell BK249.out 1).trans rfl; have hfz98_0 := blk_frozen BK249.out 0; have hfz98_1 := blk_frozen BK249.out 1) | ((with_reducible refine gate_callee (f := 23) rfl ?_); refine goesL_ (some 63) rfl rfl Try.func23 (by kernel_rfl) rfl #[.agg #[.int .i64 (wrap64 (1 + (Int.tmod (wrap64 ((Int.tmod a0 4) + 4)) 4)))], .agg #[.int .i64 t251, .int .i64 t252], .agg #[.int .i64 t253, .int .i64 t254]] rfl (by (try simp only [List.map_toArray, List.map_cons, List.map_nil]); first | done | rfl | (simp only [List.length_drop, List.length_take]; rfl)) ?_; (with_reducible refine (glebelaw06_cells.calls kj6 (wrap64 (1 + (Int.tmod (wrap64 ((Int.tmod a0 4) + 4)) 4))) t251 t252 t253 t254 t261 _ A89.out).mono ?_); rintro e w99 ⟨rfl, hb⟩; refine ⟨_, rfl, ?_⟩; have n0_ := Aside0.mk (blk_below (g := gb248) (o := .cells #[.int .i64 t251, .int .i64 t252] 23 (0, 0)) (by (with_reducible repeat (first | refine blk_drewN ?_ _ | refine blk_drew ?_ | refine blk_alloc ?_ _)); exact BK248.out) hb); have n1_ := Aside0.mk (blk_below (g := gb249) (o := .cells #[.int .i64 t253, .int .i64 t254] 23 (0, 0)) (by (with_reducible repeat (first | refine blk_drewN ?_ _ | refine blk_drew ?_ | refine blk_alloc ?_ _)); exact BK249.out) hb); have n2_ := Aside0.mk (blk_below (g := gb250) (o := .cells #[.int .i64 (wrap64 (1 + (Int.tmod (wrap64 ((Int.tmod a0 4) + 4)) 4)))] 27 (0, 0)) (by (with_reducible repeat (first | refine blk_drewN ?_ _ | refine blk_drew ?_ | refine blk_alloc ?_ _)); exact BK250.out) hb); have n3_ := Aside0.mk (below_step (by repeat (first | (with_reducible first | exact HB.out | apply below_alloc | apply pw_below_drewN | apply below_drew1 | refine below_set ?_ GE248.out | refine below_set ?_ GE249.out | refine below_set ?_ GE250.out) | exact HB.out)) hb); clear BK248; clear BK249; clear BK250; clear HB; have BK248 := n0_; have BK249 := n1_; have BK250 := n2_; have HB := n3_; clear n0_ n1_ n2_ n3_; (try clear hb); (try clear hb2); (try clear hk); (try clear hi)))
          go_ret
          exact ⟨by first | rfl | (simp [errW_none, errW_some] <;> rfl) | (simp [*, errW_none, errW_some] <;> rfl), by repeat (first | (with_reducible first | exact HB.out | apply below_alloc | apply pw_below_drewN | apply below_drew1 | refine below_set ?_ GE248.out | refine below_set ?_ GE249.out | refine below_set ?_ GE250.out) | exact HB.out)⟩

end Go.Proofs.Ytjdmnlbnaogcdaa.PC
