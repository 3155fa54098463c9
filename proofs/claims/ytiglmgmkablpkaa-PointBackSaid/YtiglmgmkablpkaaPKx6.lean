-- Written by a program of this session (wip/tools/hp.py) over the kit's print; nothing here is trusted: Lean checks it.
import Derived.Test.YtiglmgmkablpkaaPKx0
import Derived.RegionTactic
import Derived.BigRegion
import Derived.Laws.Rows
import Derived.Test.YtiglmgmkablpkaaPKx1
import Derived.Test.YtiglmgmkablpkaaPKx3
namespace Go.Proofs.Ytiglmgmkablpkaa.PK
open Go.RowKit Go.Proofs.YtiglmgmkablpkaaW.PrintWords Go.Proofs.YtiglmgmkablpkaaW.PrintLast Go.Proofs.YtiglmgmkablpkaaW.PrintMore
attribute [local go_sem] max2_int min2_int max_two min_two max_three min_three max_four min_four   -- for this text's walks alone
set_option linter.unusedVariables false
set_option linter.unusedSimpArgs false

/-! ### glebelaw07_RefRec: function 11 -/
def glebelaw07_RefRec.f (a0_0 : Int) (a0_1 : Int) (a0_2 : ByteArray) (a0_3 : ByteArray) (a0_4 : Int) : Option (Int × Int × ByteArray × ByteArray × Int) := some (a0_0, a0_1, a0_2, a0_3, a0_4)
set_option maxHeartbeats 8000000 in
set_option maxRecDepth 100000 in
theorem glebelaw07_RefRec.calls (a0_0 : Int) (a0_1 : Int) (a0_2 : ByteArray) (a0_3 : ByteArray) (a0_4 : Int) (r1 : Int) (r2 : Int) (r3 : ByteArray) (r4 : ByteArray) (r5 : Int) (w : World) (h : glebelaw07_RefRec.f a0_0 a0_1 a0_2 a0_3 a0_4 = some (r1, r2, r3, r4, r5)) :
    Calls Try.prog 11 #[.agg #[.int .i64 a0_0, .int .i64 a0_1, .string a0_2, .string a0_3, .int .i64 a0_4]] w fun e w' => e = .returned (.agg #[.int .i64 r1, .int .i64 r2, .string r3, .string r4, .int .i64 r5]) ∧ Below w.heap.size w w' := by
  have hu34 := Try.underlying34
  have hu32 := Try.underlying32
  have hu30 := Try.underlying30
  have HB := Aside0.mk (Below.refl w.heap.size w)
  have H : (some (a0_0, a0_1, a0_2, a0_3, a0_4)) = some (r1, r2, r3, r4, r5) := h
  clear h
  simp only [Option.some.injEq, Prod.mk.injEq] at H
  obtain ⟨rfl, rfl, rfl, rfl, rfl⟩ := H
  go_enter Try.func11, Try.ntmps11
  go_wp2_with (first | ((with_reducible refine gate_dst (N := 1) rfl ?_); refine box_event ?hg (N := 1) ?hd (cs := #[.int .i64 a0_0, .int .i64 a0_1, .string a0_2, .string a0_3, .int .i64 a0_4]) (t := 34) ?hr ?_; (case hd => rfl); (case hg => rfl); (case hr => first | (go_simp; done) | (go_simp; rfl)); intro gb270 hg w2 hbox hb; have n0_ := Aside0.mk (below_step (by repeat (first | (with_reducible first | exact HB.out | apply below_alloc | apply pw_below_drewN | apply below_drew1) | exact HB.out)) hb); have n1_ := Aside0.mk (hbox); have n2_ := Aside0.mk ((by rw [hg]; exact (below_size (by repeat (first | (with_reducible first | exact HB.out | apply below_alloc | apply pw_below_drewN | apply below_drew1) | exact HB.out))) : w.heap.size ≤ gb270)); have n3_ := Aside0.mk ((by rw [hg]; exact (below_size (by repeat (first | (with_reducible first | exact HB.out | apply below_alloc | apply pw_below_drewN | apply below_drew1) | exact HB.out))) : w.heap.size ≤ gb270)); clear HB; have HB := n0_; have BK270 := n1_; have GW270 := n2_; have GE270 := n3_; clear n0_ n1_ n2_ n3_; clear hb hbox hg) | ((with_reducible refine gate_dst (N := 2) rfl ?_); refine box_event ?hg (N := 2) ?hd (cs := #[.int .i64 0, .int .i64 0, .string (⟨#[]⟩ : ByteArray), .string (⟨#[]⟩ : ByteArray), .int .i64 0]) (t := 32) ?hr ?_; (case hd => rfl); (case hg => rfl); (case hr => first | (go_simp; done) | (go_simp; rfl)); intro gb271 hg w3 hbox hb; have n0_ := Aside0.mk (blk_below (g := gb270) (o := .cells #[.int .i64 a0_0, .int .i64 a0_1, .string a0_2, .string a0_3, .int .i64 a0_4] 34 (0, 0)) (by (with_reducible repeat (first | refine blk_drewN ?_ _ | refine blk_drew ?_ | refine blk_alloc ?_ _)); exact BK270.out) hb); have n1_ := Aside0.mk (below_step (by repeat (first | (with_reducible first | exact HB.out | apply below_alloc | apply pw_below_drewN | apply below_drew1 | refine below_set ?_ GE270.out) | exact HB.out)) hb); have n2_ := Aside0.mk (hbox); have n3_ := Aside0.mk ((by rw [hg]; exact (below_size (by repeat (first | (with_reducible first | exact HB.out | apply below_alloc | apply pw_below_drewN | apply below_drew1 | refine below_set ?_ GE270.out) | exact HB.out))) : w.heap.size ≤ gb271)); have n4_ := Aside0.mk ((by rw [hg]; exact (below_size (by repeat (first | (with_reducible first | exact HB.out | apply below_alloc | apply pw_below_drewN | apply below_drew1 | refine below_set ?_ GE270.out) | exact HB.out))) : w.heap.size ≤ gb271)); have n5_ := Aside0.mk ((by rw [hg]; exact Nat.ne_of_lt (blk_lt (g := gb270) (o := .cells #[.int .i64 a0_0, .int .i64 a0_1, .string a0_2, .string a0_3, .int .i64 a0_4] 34 (0, 0)) (by (with_reducible repeat (first | refine blk_drewN ?_ _ | refine blk_drew ?_ | refine blk_alloc ?_ _)); exact BK270.out)) : gb270 ≠ gb271)); have n6_ := Aside0.mk ((by rw [hg]; exact Nat.ne_of_gt (blk_lt (g := gb270) (o := .cells #[.int .i64 a0_0, .int .i64 a0_1, .string a0_2, .string a0_3, .int .i64 a0_4] 34 (0, 0)) (by (with_reducible repeat (first | refine blk_drewN ?_ _ | refine blk_drew ?_ | refine blk_alloc ?_ _)); exact BK270.out)) : gb271 ≠ gb270)); clear BK270; clear HB; have BK270 := n0_; have HB := n1_; have BK271 := n2_; have GW271 := n3_; have GE271 := n4_; have NB270_271 := n5_; have NB271_270 := n6_; clear n0_ n1_ n2_ n3_ n4_ n5_ n6_; clear hb hbox hg; have hnb4 := NB270_271.out; have hnc4 := NB271_270.out; have hcz5_0 : w3.cell? ⟨gb270, 0, none⟩ = some (.int .i64 a0_0) := (blk_cell BK270.out 0).trans rfl; have hcz5_1 : w3.cell? ⟨gb270, 1, none⟩ = some (.int .i64 a0_1) := (blk_cell BK270.out 1).trans rfl; have hcz5_2 : w3.cell? ⟨gb270, 2, none⟩ = some (.string a0_2) := (blk_cell BK270.out 2).trans rfl; have hcz5_3 : w3.cell? ⟨gb270, 3, none⟩ = some (.string a0_3) := (blk_cell BK270.out 3).trans rfl; have hcz5_4 : w3.cell? ⟨gb270, 4, none⟩ = some (.int .i64 a0_4) := (blk_cell BK270.out 4).trans rfl; have hfz5_0 := blk_frozen BK270.out 0; have hfz5_1 := blk_frozen BK270.out 1; have hfz5_2 := blk_frozen BK270.out 2; have hfz5_3 := blk_frozen BK270.out 3; have hfz5_4 := blk_frozen BK270.out 4; have hcz6_0 : w3.cell? ⟨gb271, 0, none⟩ = some (.int .i64 0) := (blk_cell BK271.out 0).trans rfl; have hcz6_1 : w3.cell? ⟨gb271, 1, none⟩ = some (.int .i64 0) := (blk_cell BK271.out 1).trans rfl; have hcz6_2 : w3.cell? ⟨gb271, 2, none⟩ = some (.string (⟨#[]⟩ : ByteArray)) := (blk_cell BK271.out 2).trans rfl; have hcz6_3 : w3.cell? ⟨gb271, 3, none⟩ = some (.string (⟨#[]⟩ : ByteArray)) := (blk_cell BK271.out 3).trans rfl; have hcz6_4 : w3.cell? ⟨gb271, 4, none⟩ = some (.int .i64 0) := (blk_cell BK271.out 4).trans rfl; have hfz6_0 := blk_frozen BK271.out 0; have hfz6_1 := blk_frozen BK271.out 1; have hfz6_2 := blk_frozen BK271.out 2; have hfz6_3 := blk_frozen BK271.out 3; have hfz6_4 := blk_frozen BK271.out 4))
  refine bodyPost_ret (results_cell_row rfl _ _ gb271 32 #[.int .i64 a0_0, .int .i64 a0_1, .string a0_2, .string a0_3, .int .i64 a0_4] (0, 0) _ rfl (by (with_reducible repeat (first | refine blk_drewN ?_ _ | refine blk_drew ?_ | refine blk_alloc ?_ _)); refine blk_put (cs := #[.int .i64 a0_0, .int .i64 a0_1, .string a0_2, .string a0_3, .int .i64 0]) ?_ 4 _ rfl; (with_reducible repeat (first | refine blk_drewN ?_ _ | refine blk_drew ?_ | refine blk_alloc ?_ _)); refine blk_put (cs := #[.int .i64 a0_0, .int .i64 a0_1, .string a0_2, .string (⟨#[]⟩ : ByteArray), .int .i64 0]) ?_ 3 _ rfl; (with_reducible repeat (first | refine blk_drewN ?_ _ | refine blk_drew ?_ | refine blk_alloc ?_ _)); refine blk_put (cs := #[.int .i64 a0_0, .int .i64 a0_1, .string (⟨#[]⟩ : ByteArray), .string (⟨#[]⟩ : ByteArray), .int .i64 0]) ?_ 2 _ rfl; (with_reducible repeat (first | refine blk_drewN ?_ _ | refine blk_drew ?_ | refine blk_alloc ?_ _)); refine blk_put (cs := #[.int .i64 a0_0, .int .i64 0, .string (⟨#[]⟩ : ByteArray), .string (⟨#[]⟩ : ByteArray), .int .i64 0]) ?_ 1 _ rfl; (with_reducible repeat (first | refine blk_drewN ?_ _ | refine blk_drew ?_ | refine blk_alloc ?_ _)); refine blk_put (cs := #[.int .i64 0, .int .i64 0, .string (⟨#[]⟩ : ByteArray), .string (⟨#[]⟩ : ByteArray), .int .i64 0]) ?_ 0 _ rfl; (with_reducible repeat (first | refine blk_drewN ?_ _ | refine blk_drew ?_ | refine blk_alloc ?_ _)); exact BK271.out) Try.underlying32 rfl (by kernel_rfl)) rfl ?_
  exact ⟨by first | rfl | (simp [errW_none, errW_some] <;> rfl) | (simp [*, errW_none, errW_some] <;> rfl), by repeat (first | (with_reducible first | exact HB.out | apply below_alloc | apply pw_below_drewN | apply below_drew1 | refine below_set ?_ GE270.out | refine below_set ?_ GE271.out) | exact HB.out)⟩

section
open Go.RowKit Go.Proofs.YtiglmgmkablpkaaW.PrintWords Go.Proofs.YtiglmgmkablpkaaW.PrintLast Go.Proofs.YtiglmgmkablpkaaW.PrintMore
attribute [local go_sem] max2_int min2_int max_two min_two max_three min_three max_four min_four   -- for this text's walks alone
set_option linter.unusedVariables false
set_option linter.unusedSimpArgs false

/-! ### glebelaw07_RefOp: function 18 -/
def glebelaw07_RefOp.f (a0_0 : Int) (a0_1 : Int) (a0_2 : Int) (a0_3 : ByteArray) (a0_4 : ByteArray) (a0_5 : Int) (a0_6 : Int) : Option (Int × Int × Int × ByteArray × ByteArray × Int × Int) := some (a0_0, a0_1, a0_2, a0_3, a0_4, a0_5, a0_6)
set_option maxHeartbeats 8000000 in
set_option maxRecDepth 100000 in
theorem glebelaw07_RefOp.calls (a0_0 : Int) (a0_1 : Int) (a0_2 : Int) (a0_3 : ByteArray) (a0_4 : ByteArray) (a0_5 : Int) (a0_6 : Int) (r1 : Int) (r2 : Int) (r3 : Int) (r4 : ByteArray) (r5 : ByteArray) (r6 : Int) (r7 : Int) (w : World) (h : glebelaw07_RefOp.f a0_0 a0_1 a0_2 a0_3 a0_4 a0_5 a0_6 = some (r1, r2, r3, r4, r5, r6, r7)) :
    Calls Try.prog 18 #[.agg #[.int .i64 a0_0, .int .i64 a0_1, .int .i64 a0_2, .string a0_3, .string a0_4, .int .i64 a0_5, .int .i64 a0_6]] w fun e w' => e = .returned (.agg #[.int .i64 r1, .int .i64 r2, .int .i64 r3, .string r4, .string r5, .int .i64 r6, .int .i64 r7]) ∧ Below w.heap.size w w' := by
  have hu46 := Try.underlying46
  have hu44 := Try.underlying44
  have hu30 := Try.underlying30
  have HB := Aside0.mk (Below.refl w.heap.size w)
  have H : (some (a0_0, a0_1, a0_2, a0_3, a0_4, a0_5, a0_6)) = some (r1, r2, r3, r4, r5, r6, r7) := h
  clear h
  simp only [Option.some.injEq, Prod.mk.injEq] at H
  obtain ⟨rfl, rfl, rfl, rfl, rfl, rfl, rfl⟩ := H
  go_enter Try.func18, Try.ntmps18
  go_wp2_with (first | ((with_reducible refine gate_dst (N := 1) rfl ?_); refine box_event ?hg (N := 1) ?hd (cs := #[.int .i64 a0_0, .int .i64 a0_1, .int .i64 a0_2, .string a0_3, .string a0_4, .int .i64 a0_5, .int .i64 a0_6]) (t := 46) ?hr ?_; (case hd => rfl); (case hg => rfl); (case hr => first | (go_simp; done) | (go_simp; rfl)); intro gb272 hg w2 hbox hb; have n0_ := Aside0.mk (below_step (by repeat (first | (with_reducible first | exact HB.out | apply below_alloc | apply pw_below_drewN | apply below_drew1) | exact HB.out)) hb); have n1_ := Aside0.mk (hbox); have n2_ := Aside0.mk ((by rw [hg]; exact (below_size (by repeat (first | (with_reducible first | exact HB.out | apply below_alloc | apply pw_below_drewN | apply below_drew1) | exact HB.out))) : w.heap.size ≤ gb272)); have n3_ := Aside0.mk ((by rw [hg]; exact (below_size (by repeat (first | (with_reducible first | exact HB.out | apply below_alloc | apply pw_below_drewN | apply below_drew1) | exact HB.out))) : w.heap.size ≤ gb272)); clear HB; have HB := n0_; have BK272 := n1_; have GW272 := n2_; have GE272 := n3_; clear n0_ n1_ n2_ n3_; clear hb hbox hg) | ((with_reducible refine gate_dst (N := 2) rfl ?_); refine box_event ?hg (N := 2) ?hd (cs := #[.int .i64 0, .int .i64 0, .int .i64 0, .string (⟨#[]⟩ : ByteArray), .string (⟨#[]⟩ : ByteArray), .int .i64 0, .int .i64 0]) (t := 44) ?hr ?_; (case hd => rfl); (case hg => rfl); (case hr => first | (go_simp; done) | (go_simp; rfl)); intro gb273 hg w3 hbox hb; have n0_ := Aside0.mk (blk_below (g := gb272) (o := .cells #[.int .i64 a0_0, .int .i64 a0_1, .int .i64 a0_2, .string a0_3, .string a0_4, .int .i64 a0_5, .int .i64 a0_6] 46 (0, 0)) (by (with_reducible repeat (first | refine blk_drewN ?_ _ | refine blk_drew ?_ | refine blk_alloc ?_ _)); exact BK272.out) hb); have n1_ := Aside0.mk (below_step (by repeat (first | (with_reducible first | exact HB.out | apply below_alloc | apply pw_below_drewN | apply below_drew1 | refine below_set ?_ GE272.out) | exact HB.out)) hb); have n2_ := Aside0.mk (hbox); have n3_ := Aside0.mk ((by rw [hg]; exact (below_size (by repeat (first | (with_reducible first | exact HB.out | apply below_alloc | apply pw_below_drewN | apply below_drew1 | refine below_set ?_ GE272.out) | exact HB.out))) : w.heap.size ≤ gb273)); have n4_ := Aside0.mk ((by rw [hg]; exact (below_size (by repeat (first | (with_reducible first | exact HB.out | apply below_alloc | apply pw_below_drewN | apply below_drew1 | refine below_set ?_ GE272.out) | exact HB.out))) : w.heap.size ≤ gb273)); have n5_ := Aside0.mk ((by rw [hg]; exact Nat.ne_of_lt (blk_lt (g := gb272) (o := .cells #[.int .i64 a0_0, .int .i64 a0_1, .int .i64 a0_2, .string a0_3, .string a0_4, .int .i64 a0_5, .int .i64 a0_6] 46 (0, 0)) (by (with_reducible repeat (first | refine blk_drewN ?_ _ | refine blk_drew ?_ | refine blk_alloc ?_ _)); exact BK272.out)) : gb272 ≠ gb273)); have n6_ := Aside0.mk ((by rw [hg]; exact Nat.ne_of_gt (blk_lt (g := gb272) (o := .cells #[.int .i64 a0_0, .int .i64 a0_1, .int .i64 a0_2, .string a0_3, .string a0_4, .int .i64 a0_5, .int .i64 a0_6] 46 (0, 0)) (by (with_reducible repeat (first | refine blk_drewN ?_ _ | refine blk_drew ?_ | refine blk_alloc ?_ _)); exact BK272.out)) : gb273 ≠ gb272)); clear BK272; clear HB; have BK272 := n0_; have HB := n1_; have BK273 := n2_; have GW273 := n3_; have GE273 := n4_; have NB272_273 := n5_; have NB273_272 := n6_; clear n0_ n1_ n2_ n3_ n4_ n5_ n6_; clear hb hbox hg; have hnb4 := NB272_273.out; have hnc4 := NB273_272.out; have hcz5_0 : w3.cell? ⟨gb272, 0, none⟩ = some (.int .i64 a0_0) := (blk_cell BK272.out 0).trans rfl; have hcz5_1 : w3.cell? ⟨gb272, 1, none⟩ = some (.int .i64 a0_1) := (blk_cell BK272.out 1).trans rfl; have hcz5_2 : w3.cell? ⟨gb272, 2, none⟩ = some (.int .i64 a0_2) := (blk_cell BK272.out 2).trans rfl; have hcz5_3 : w3.cell? ⟨gb272, 3, none⟩ = some (.string a0_3) := (blk_cell BK272.out 3).trans rfl; have hcz5_4 : w3.cell? ⟨gb272, 4, none⟩ = some (.string a0_4) := (blk_cell BK272.out 4).trans rfl; have hcz5_5 : w3.cell? ⟨gb272, 5, none⟩ = some (.int .i64 a0_5) := (blk_cell BK272.out 5).trans rfl; have hcz5_6 : w3.cell? ⟨gb272, 6, none⟩ = some (.int .i64 a0_6) := (blk_cell BK272.out 6).trans rfl; have hfz5_0 := blk_frozen BK272.out 0; have hfz5_1 := blk_frozen BK272.out 1; have hfz5_2 := blk_frozen BK272.out 2; have hfz5_3 := blk_frozen BK272.out 3; have hfz5_4 := blk_frozen BK272.out 4; have hfz5_5 := blk_frozen BK272.out 5; have hfz5_6 := blk_frozen BK272.out 6; have hcz6_0 : w3.cell? ⟨gb273, 0, none⟩ = some (.int .i64 0) := (blk_cell BK273.out 0).trans rfl; have hcz6_1 : w3.cell? ⟨gb273, 1, none⟩ = some (.int .i64 0) := (blk_cell BK273.out 1).trans rfl; have hcz6_2 : w3.cell? ⟨gb273, 2, none⟩ = some (.int .i64 0) := (blk_cell BK273.out 2).trans rfl; have hcz6_3 : w3.cell? ⟨gb273, 3, none⟩ = some (.string (⟨#[]⟩ : ByteArray)) := (blk_cell BK273.out 3).trans rfl; have hcz6_4 : w3.cell? ⟨gb273, 4, none⟩ = some (.string (⟨#[]⟩ : ByteArray)) := (blk_cell BK273.out 4).trans rfl; have hcz6_5 : w3.cell? ⟨gb273, 5, none⟩ = some (.int .i64 0) := (blk_cell BK273.out 5).trans rfl; have hcz6_6 : w3.cell? ⟨gb273, 6, none⟩ = some (.int .i64 0) := (blk_cell BK273.out 6).trans rfl; have hfz6_0 := blk_frozen BK273.out 0; have hfz6_1 := blk_frozen BK273.out 1; have hfz6_2 := blk_frozen BK273.out 2; have hfz6_3 := blk_frozen BK273.out 3; have hfz6_4 := blk_frozen BK273.out 4; have hfz6_5 := blk_frozen BK273.out 5; have hfz6_6 := blk_frozen BK273.out 6))
  refine bodyPost_ret (results_cell_row rfl _ _ gb273 44 #[.int .i64 a0_0, .int .i64 a0_1, .int .i64 a0_2, .string a0_3, .string a0_4, .int .i64 a0_5, .int .i64 a0_6] (0, 0) _ rfl (by (with_reducible repeat (first | refine blk_drewN ?_ _ | refine blk_drew ?_ | refine blk_alloc ?_ _)); refine blk_put (cs := #[.int .i64 a0_0, .int .i64 a0_1, .int .i64 a0_2, .string a0_3, .string a0_4, .int .i64 a0_5, .int .i64 0]) ?_ 6 _ rfl; (with_reducible repeat (first | refine blk_drewN ?_ _ | refine blk_drew ?_ | refine blk_alloc ?_ _)); refine blk_put (cs := #[.int .i64 a0_0, .int .i64 a0_1, .int .i64 a0_2, .string a0_3, .string a0_4, .int .i64 0, .int .i64 0]) ?_ 5 _ rfl; (with_reducible repeat (first | refine blk_drewN ?_ _ | refine blk_drew ?_ | refine blk_alloc ?_ _)); refine blk_put (cs := #[.int .i64 a0_0, .int .i64 a0_1, .int .i64 a0_2, .string a0_3, .string (⟨#[]⟩ : ByteArray), .int .i64 0, .int .i64 0]) ?_ 4 _ rfl; (with_reducible repeat (first | refine blk_drewN ?_ _ | refine blk_drew ?_ | refine blk_alloc ?_ _)); refine blk_put (cs := #[.int .i64 a0_0, .int .i64 a0_1, .int .i64 a0_2, .string (⟨#[]⟩ : ByteArray), .string (⟨#[]⟩ : ByteArray), .int .i64 0, .int .i64 0]) ?_ 3 _ rfl; (with_reducible repeat (first | refine blk_drewN ?_ _ | refine blk_drew ?_ | refine blk_alloc ?_ _)); refine blk_put (cs := #[.int .i64 a0_0, .int .i64 a0_1, .int .i64 0, .string (⟨#[]⟩ : ByteArray), .string (⟨#[]⟩ : ByteArray), .int .i64 0, .int .i64 0]) ?_ 2 _ rfl; (with_reducible repeat (first | refine blk_drewN ?_ _ | refine blk_drew ?_ | refine blk_alloc ?_ _)); refine blk_put (cs := #[.int .i64 a0_0, .int .i64 0, .int .i64 0, .string (⟨#[]⟩ : ByteArray), .string (⟨#[]⟩ : ByteArray), .int .i64 0, .int .i64 0]) ?_ 1 _ rfl; (with_reducible repeat (first | refine blk_drewN ?_ _ | refine blk_drew ?_ | refine blk_alloc ?_ _)); refine blk_put (cs := #[.int .i64 0, .int .i64 0, .int .i64 0, .string (⟨#[]⟩ : ByteArray), .string (⟨#[]⟩ : ByteArray), .int .i64 0, .int .i64 0]) ?_ 0 _ rfl; (with_reducible repeat (first | refine blk_drewN ?_ _ | refine blk_drew ?_ | refine blk_alloc ?_ _)); exact BK273.out) Try.underlying44 rfl (by kernel_rfl)) rfl ?_
  exact ⟨by first | rfl | (simp [errW_none, errW_some] <;> rfl) | (simp [*, errW_none, errW_some] <;> rfl), by repeat (first | (with_reducible first | exact HB.out | apply below_alloc | apply pw_below_drewN | apply below_drew1 | refine below_set ?_ GE272.out | refine below_set ?_ GE273.out) | exact HB.out)⟩

end
section
open Go.RowKit Go.Proofs.YtiglmgmkablpkaaW.PrintWords Go.Proofs.YtiglmgmkablpkaaW.PrintLast Go.Proofs.YtiglmgmkablpkaaW.PrintMore
attribute [local go_sem] max2_int min2_int max_two min_two max_three min_three max_four min_four   -- for this text's walks alone
set_option linter.unusedVariables false
set_option linter.unusedSimpArgs false

--OWN Derived.RegionTactic,Derived.BigRegion,Derived.Laws.Rows
/-! ### point_Op: function 52 -/
set_option maxHeartbeats 4000000 in
set_option maxRecDepth 100000 in
theorem point_Op.calls (g : Nat) (l : List Int) (e : Int) (kd : Int) (px : Int) (py : Int) (key : ByteArray) (val : ByteArray) (cli : Int) (seq : Int) (ok : Bool) (w0 w : World) (hI : IsRdr w0 w g l e true) (hB : Below w0.heap.size w0 w) :
    Calls Try.prog 52 #[.pointer (some ⟨g, 0, none⟩), .agg #[.int .i64 kd, .int .i64 px, .int .i64 py, .string key, .string val, .int .i64 cli, .int .i64 seq], .bool ok] w fun ed w' => ed = .returned (.agg (if tkE ok e = 0 then #[.int .i64 kd, .int .i64 px, .int .i64 py, .string key, .string val, .int .i64 cli, .int .i64 seq] else #[.int .i64 0, .int .i64 0, .int .i64 0, .string ⟨#[]⟩, .string ⟨#[]⟩, .int .i64 0, .int .i64 0])) ∧ IsRdr w0 w' g l (tkE ok e) true ∧ Below w0.heap.size w0 w' ∧ KeepBut w w' g none := by
  have HI := Aside0.mk hI
  have HB := Aside0.mk hB
  have HK := Aside0.mk (KeepBut.refl w g none)
  have HSZ := Aside0.mk hB.size
  clear hI hB
  cases ok
  focus
    by_cases h0 : e = 0
    focus
      subst h0
      rw [show tkE false 0 = 21 from rfl, if_neg (by decide : ¬ (21 : Int) = 0)]
      go_enter Try.func52, Try.ntmps52
      go_wp2_with (first | ((with_reducible refine gate_dst (N := 4) rfl ?_); refine box_event ?hg (N := 4) ?hd (cs := #[.int .i64 kd, .int .i64 px, .int .i64 py, .string key, .string val, .int .i64 cli, .int .i64 seq]) (t := 46) ?hr ?_; (case hd => rfl); (case hg => rfl); (case hr => first | (go_simp; done) | (go_simp; rfl)); intro gx hg w4 hbox hb; have HX := Aside0.mk hbox; replace HI := Aside0.mk (HI.out.below hb); have HS6 := Aside0.mk (HK.out.1); replace HK := Aside0.mk (HK.out.trans (KeepBut.of_below hb g none) (.inl rfl)); replace HB := Aside0.mk (below_then HB.out HB.out.size hb); clear HS6; clear hbox hb hg) | ((with_reducible refine gate_dst (N := 6) rfl ?_); refine box_event ?hg (N := 6) ?hd (cs := #[.int .i64 0, .int .i64 0, .int .i64 0, .string ⟨#[]⟩, .string ⟨#[]⟩, .int .i64 0, .int .i64 0]) (t := 46) ?hr ?_; (case hd => rfl); (case hg => rfl); (case hr => first | (go_simp; done) | (go_simp; rfl)); intro g6 hg w6 hbox hb; have H6 := Aside0.mk hbox; replace HX := Aside0.mk (blk_below HX.out hb); have HG6 := Aside0.mk (show w.heap.size ≤ g6 by rw [hg]; exact HK.out.1); replace HI := Aside0.mk (HI.out.below hb); have HS6 := Aside0.mk (HK.out.1); replace HK := Aside0.mk (HK.out.trans (KeepBut.of_below hb g none) (.inl rfl)); replace HB := Aside0.mk (below_then HB.out HB.out.size hb); clear HS6; clear hbox hb hg) | fail)
      refine (wire_Reader_Fail.calls g l 0 true 21 w0 _ HI.out HB.out).mono ?_
      rintro e1 wF ⟨rfl, hi, hbx, hk⟩
      replace HX := Aside0.mk (hk.blk HX.out (HI.out.at_ne HX.out (by decide)) (by simp))
      replace H6 := Aside0.mk (hk.blk H6.out (HI.out.at_ne H6.out (by decide)) (by simp))
      replace HK := Aside0.mk (HK.out.trans hk (.inl rfl))
      replace HB := Aside0.mk hbx
      replace HI := Aside0.mk (show IsRdr w0 wF g l 21 true from hi)
      clear hi hbx hk
      go_wp2_with fail
      refine (wire_Reader_Err.calls g l 21 true w0 _ HI.out).mono ?_
      rintro e2 wE ⟨rfl, rfl⟩
      rw [if_pos (rfl : true = true)]
      go_wp2_with (first | ((with_reducible refine gate_dst (N := 7) rfl ?_); refine box_event ?hg (N := 7) ?hd (cs := #[.int .i64 0, .int .i64 0, .int .i64 0, .string ⟨#[]⟩, .string ⟨#[]⟩, .int .i64 0, .int .i64 0]) (t := 46) ?hr ?_; (case hd => rfl); (case hg => rfl); (case hr => first | (go_simp; done) | (go_simp; rfl)); intro g7 hg w7 hbox hb; replace HX := Aside0.mk (blk_below HX.out hb); replace H6 := Aside0.mk (blk_below H6.out hb); replace HI := Aside0.mk (HI.out.below hb); have HS6 := Aside0.mk (HK.out.1); replace HK := Aside0.mk (HK.out.trans (KeepBut.of_below hb g none) (.inl rfl)); replace HB := Aside0.mk (below_then HB.out HB.out.size hb); clear HS6; have z0 := blk_cell hbox 0; have z1 := blk_cell hbox 1; have z2 := blk_cell hbox 2; have z3 := blk_cell hbox 3; have z4 := blk_cell hbox 4; have z5 := blk_cell hbox 5; have z6 := blk_cell hbox 6; have s0 := blk_cell H6.out 0; have f0 := blk_frozen H6.out 0; have s1 := blk_cell H6.out 1; have f1 := blk_frozen H6.out 1; have s2 := blk_cell H6.out 2; have f2 := blk_frozen H6.out 2; have s3 := blk_cell H6.out 3; have f3 := blk_frozen H6.out 3; have s4 := blk_cell H6.out 4; have f4 := blk_frozen H6.out 4; have s5 := blk_cell H6.out 5; have f5 := blk_frozen H6.out 5; have s6 := blk_cell H6.out 6; have f6 := blk_frozen H6.out 6; clear hbox hb hg) | fail)
      exact bodyPost_ret (results_cell_row rfl _ _ g6 46 #[.int .i64 0, .int .i64 0, .int .i64 0, .string ⟨#[]⟩, .string ⟨#[]⟩, .int .i64 0, .int .i64 0] (0, 0) _ rfl (blk_put (blk_put (blk_put (blk_put (blk_put (blk_put (blk_put (H6.out) 0 (.int .i64 0) rfl) 1 (.int .i64 0) rfl) 2 (.int .i64 0) rfl) 3 (.string ⟨#[]⟩) rfl) 4 (.string ⟨#[]⟩) rfl) 5 (.int .i64 0) rfl) 6 (.int .i64 0) rfl) Try.underlying46 rfl rfl) rfl ⟨rfl, HI.out.keep ((((((((KeepBut.refl _ g6 none).set_ 0 (.int .i64 0)).set_ 1 (.int .i64 0)).set_ 2 (.int .i64 0)).set_ 3 (.string ⟨#[]⟩)).set_ 4 (.string ⟨#[]⟩)).set_ 5 (.int .i64 0)).set_ 6 (.int .i64 0)) (HI.out.at_ne H6.out (by decide)) H6.out (by decide), below_set (below_set (below_set (below_set (below_set (below_set (below_set (HB.out) (Nat.le_trans HSZ.out HG6.out)) (Nat.le_trans HSZ.out HG6.out)) (Nat.le_trans HSZ.out HG6.out)) (Nat.le_trans HSZ.out HG6.out)) (Nat.le_trans HSZ.out HG6.out)) (Nat.le_trans HSZ.out HG6.out)) (Nat.le_trans HSZ.out HG6.out), keep_new HK.out ((((((((KeepBut.refl _ g6 none).set_ 0 (.int .i64 0)).set_ 1 (.int .i64 0)).set_ 2 (.int .i64 0)).set_ 3 (.string ⟨#[]⟩)).set_ 4 (.string ⟨#[]⟩)).set_ 5 (.int .i64 0)).set_ 6 (.int .i64 0)) HG6.out⟩
    have he : tkE false e = e := if_neg h0
    have he1 : (e == 0) = false := beq_eq_false_iff_ne.mpr h0
    have he2 : (e != 0) = true := bne_iff_ne.mpr h0
    rw [he, if_neg h0]
    clear he
    have hr : (if rdOk e true = true then (21 : Int) else e) = e := if_neg (by unfold rdOk; rw [he1]; simp)
    have HR_ := Aside0.mk hr
    clear hr he1
    go_enter Try.func52, Try.ntmps52
    go_wp2_with (first | ((with_reducible refine gate_dst (N := 4) rfl ?_); refine box_event ?hg (N := 4) ?hd (cs := #[.int .i64 kd, .int .i64 px, .int .i64 py, .string key, .string val, .int .i64 cli, .int .i64 seq]) (t := 46) ?hr ?_; (case hd => rfl); (case hg => rfl); (case hr => first | (go_simp; done) | (go_simp; rfl)); intro gx hg w4 hbox hb; have HX := Aside0.mk hbox; replace HI := Aside0.mk (HI.out.below hb); have HS6 := Aside0.mk (HK.out.1); replace HK := Aside0.mk (HK.out.trans (KeepBut.of_below hb g none) (.inl rfl)); replace HB := Aside0.mk (below_then HB.out HB.out.size hb); clear HS6; clear hbox hb hg) | ((with_reducible refine gate_dst (N := 6) rfl ?_); refine box_event ?hg (N := 6) ?hd (cs := #[.int .i64 0, .int .i64 0, .int .i64 0, .string ⟨#[]⟩, .string ⟨#[]⟩, .int .i64 0, .int .i64 0]) (t := 46) ?hr ?_; (case hd => rfl); (case hg => rfl); (case hr => first | (go_simp; done) | (go_simp; rfl)); intro g6 hg w6 hbox hb; have H6 := Aside0.mk hbox; replace HX := Aside0.mk (blk_below HX.out hb); have HG6 := Aside0.mk (show w.heap.size ≤ g6 by rw [hg]; exact HK.out.1); replace HI := Aside0.mk (HI.out.below hb); have HS6 := Aside0.mk (HK.out.1); replace HK := Aside0.mk (HK.out.trans (KeepBut.of_below hb g none) (.inl rfl)); replace HB := Aside0.mk (below_then HB.out HB.out.size hb); clear HS6; clear hbox hb hg) | fail)
    refine (wire_Reader_Fail.calls g l e true 21 w0 _ HI.out HB.out).mono ?_
    rintro e1 wF ⟨rfl, hi, hbx, hk⟩
    replace HX := Aside0.mk (hk.blk HX.out (HI.out.at_ne HX.out (by decide)) (by simp))
    replace H6 := Aside0.mk (hk.blk H6.out (HI.out.at_ne H6.out (by decide)) (by simp))
    replace HK := Aside0.mk (HK.out.trans hk (.inl rfl))
    replace HB := Aside0.mk hbx
    rw [HR_.out] at hi
    replace HI := Aside0.mk hi
    clear hi hbx hk
    go_wp2_with fail
    refine (wire_Reader_Err.calls g l e true w0 _ HI.out).mono ?_
    rintro e2 wE ⟨rfl, rfl⟩
    rw [if_pos (rfl : true = true)]
    go_wp2_with (first | ((with_reducible refine gate_dst (N := 7) rfl ?_); refine box_event ?hg (N := 7) ?hd (cs := #[.int .i64 0, .int .i64 0, .int .i64 0, .string ⟨#[]⟩, .string ⟨#[]⟩, .int .i64 0, .int .i64 0]) (t := 46) ?hr ?_; (case hd => rfl); (case hg => rfl); (case hr => first | (go_simp; done) | (go_simp; rfl)); intro g7 hg w7 hbox hb; replace HX := Aside0.mk (blk_below HX.out hb); replace H6 := Aside0.mk (blk_below H6.out hb); replace HI := Aside0.mk (HI.out.below hb); have HS6 := Aside0.mk (HK.out.1); replace HK := Aside0.mk (HK.out.trans (KeepBut.of_below hb g none) (.inl rfl)); replace HB := Aside0.mk (below_then HB.out HB.out.size hb); clear HS6; have z0 := blk_cell hbox 0; have z1 := blk_cell hbox 1; have z2 := blk_cell hbox 2; have z3 := blk_cell hbox 3; have z4 := blk_cell hbox 4; have z5 := blk_cell hbox 5; have z6 := blk_cell hbox 6; have s0 := blk_cell H6.out 0; have f0 := blk_frozen H6.out 0; have s1 := blk_cell H6.out 1; have f1 := blk_frozen H6.out 1; have s2 := blk_cell H6.out 2; have f2 := blk_frozen H6.out 2; have s3 := blk_cell H6.out 3; have f3 := blk_frozen H6.out 3; have s4 := blk_cell H6.out 4; have f4 := blk_frozen H6.out 4; have s5 := blk_cell H6.out 5; have f5 := blk_frozen H6.out 5; have s6 := blk_cell H6.out 6; have f6 := blk_frozen H6.out 6; clear hbox hb hg) | fail)
    exact bodyPost_ret (results_cell_row rfl _ _ g6 46 #[.int .i64 0, .int .i64 0, .int .i64 0, .string ⟨#[]⟩, .string ⟨#[]⟩, .int .i64 0, .int .i64 0] (0, 0) _ rfl (blk_put (blk_put (blk_put (blk_put (blk_put (blk_put (blk_put (H6.out) 0 (.int .i64 0) rfl) 1 (.int .i64 0) rfl) 2 (.int .i64 0) rfl) 3 (.string ⟨#[]⟩) rfl) 4 (.string ⟨#[]⟩) rfl) 5 (.int .i64 0) rfl) 6 (.int .i64 0) rfl) Try.underlying46 rfl rfl) rfl ⟨rfl, HI.out.keep ((((((((KeepBut.refl _ g6 none).set_ 0 (.int .i64 0)).set_ 1 (.int .i64 0)).set_ 2 (.int .i64 0)).set_ 3 (.string ⟨#[]⟩)).set_ 4 (.string ⟨#[]⟩)).set_ 5 (.int .i64 0)).set_ 6 (.int .i64 0)) (HI.out.at_ne H6.out (by decide)) H6.out (by decide), below_set (below_set (below_set (below_set (below_set (below_set (below_set (HB.out) (Nat.le_trans HSZ.out HG6.out)) (Nat.le_trans HSZ.out HG6.out)) (Nat.le_trans HSZ.out HG6.out)) (Nat.le_trans HSZ.out HG6.out)) (Nat.le_trans HSZ.out HG6.out)) (Nat.le_trans HSZ.out HG6.out)) (Nat.le_trans HSZ.out HG6.out), keep_new HK.out ((((((((KeepBut.refl _ g6 none).set_ 0 (.int .i64 0)).set_ 1 (.int .i64 0)).set_ 2 (.int .i64 0)).set_ 3 (.string ⟨#[]⟩)).set_ 4 (.string ⟨#[]⟩)).set_ 5 (.int .i64 0)).set_ 6 (.int .i64 0)) HG6.out⟩
  by_cases h0 : e = 0
  focus
    subst h0
    rw [show tkE true 0 = 0 from rfl, if_pos (rfl : (0 : Int) = 0)]
    go_enter Try.func52, Try.ntmps52
    go_wp2_with (first | ((with_reducible refine gate_dst (N := 4) rfl ?_); refine box_event ?hg (N := 4) ?hd (cs := #[.int .i64 kd, .int .i64 px, .int .i64 py, .string key, .string val, .int .i64 cli, .int .i64 seq]) (t := 46) ?hr ?_; (case hd => rfl); (case hg => rfl); (case hr => first | (go_simp; done) | (go_simp; rfl)); intro gx hg w4 hbox hb; have HX := Aside0.mk hbox; replace HI := Aside0.mk (HI.out.below hb); have HS6 := Aside0.mk (HK.out.1); replace HK := Aside0.mk (HK.out.trans (KeepBut.of_below hb g none) (.inl rfl)); replace HB := Aside0.mk (below_then HB.out HB.out.size hb); clear HS6; clear hbox hb hg) | ((with_reducible refine gate_dst (N := 6) rfl ?_); refine box_event ?hg (N := 6) ?hd (cs := #[.int .i64 0, .int .i64 0, .int .i64 0, .string ⟨#[]⟩, .string ⟨#[]⟩, .int .i64 0, .int .i64 0]) (t := 46) ?hr ?_; (case hd => rfl); (case hg => rfl); (case hr => first | (go_simp; done) | (go_simp; rfl)); intro g6 hg w6 hbox hb; have H6 := Aside0.mk hbox; replace HX := Aside0.mk (blk_below HX.out hb); have HG6 := Aside0.mk (show w.heap.size ≤ g6 by rw [hg]; exact HK.out.1); replace HI := Aside0.mk (HI.out.below hb); have HS6 := Aside0.mk (HK.out.1); replace HK := Aside0.mk (HK.out.trans (KeepBut.of_below hb g none) (.inl rfl)); replace HB := Aside0.mk (below_then HB.out HB.out.size hb); clear HS6; clear hbox hb hg) | fail)
    refine (wire_Reader_Err.calls g l 0 true w0 _ HI.out).mono ?_
    rintro e2 wE ⟨rfl, rfl⟩
    rw [if_pos (rfl : true = true)]
    have h0 := blk_cell HX.out 0
    have h1 := blk_cell HX.out 1
    have h2 := blk_cell HX.out 2
    have h3 := blk_cell HX.out 3
    have h4 := blk_cell HX.out 4
    have h5 := blk_cell HX.out 5
    have h6 := blk_cell HX.out 6
    have s0 := blk_cell H6.out 0
    have s1 := blk_cell H6.out 1
    have s2 := blk_cell H6.out 2
    have s3 := blk_cell H6.out 3
    have s4 := blk_cell H6.out 4
    have s5 := blk_cell H6.out 5
    have s6 := blk_cell H6.out 6
    have f0 := blk_frozen H6.out 0
    have f1 := blk_frozen H6.out 1
    have f2 := blk_frozen H6.out 2
    have f3 := blk_frozen H6.out 3
    have f4 := blk_frozen H6.out 4
    have f5 := blk_frozen H6.out 5
    have f6 := blk_frozen H6.out 6
    go_wp2
    exact bodyPost_ret (results_cell_row rfl _ _ g6 46 #[.int .i64 kd, .int .i64 px, .int .i64 py, .string key, .string val, .int .i64 cli, .int .i64 seq] (0, 0) _ rfl (blk_put (blk_put (blk_put (blk_put (blk_put (blk_put (blk_put (H6.out) 0 (.int .i64 kd) rfl) 1 (.int .i64 px) rfl) 2 (.int .i64 py) rfl) 3 (.string key) rfl) 4 (.string val) rfl) 5 (.int .i64 cli) rfl) 6 (.int .i64 seq) rfl) Try.underlying46 rfl rfl) rfl ⟨rfl, HI.out.keep ((((((((KeepBut.refl _ g6 none).set_ 0 (.int .i64 kd)).set_ 1 (.int .i64 px)).set_ 2 (.int .i64 py)).set_ 3 (.string key)).set_ 4 (.string val)).set_ 5 (.int .i64 cli)).set_ 6 (.int .i64 seq)) (HI.out.at_ne H6.out (by decide)) H6.out (by decide), below_set (below_set (below_set (below_set (below_set (below_set (below_set (HB.out) (Nat.le_trans HSZ.out HG6.out)) (Nat.le_trans HSZ.out HG6.out)) (Nat.le_trans HSZ.out HG6.out)) (Nat.le_trans HSZ.out HG6.out)) (Nat.le_trans HSZ.out HG6.out)) (Nat.le_trans HSZ.out HG6.out)) (Nat.le_trans HSZ.out HG6.out), keep_new HK.out ((((((((KeepBut.refl _ g6 none).set_ 0 (.int .i64 kd)).set_ 1 (.int .i64 px)).set_ 2 (.int .i64 py)).set_ 3 (.string key)).set_ 4 (.string val)).set_ 5 (.int .i64 cli)).set_ 6 (.int .i64 seq)) HG6.out⟩
  have he : tkE true e = e := rfl
  have he2 : (e != 0) = true := bne_iff_ne.mpr h0
  rw [he, if_neg h0]
  clear he
  go_enter Try.func52, Try.ntmps52
  go_wp2_with (first | ((with_reducible refine gate_dst (N := 4) rfl ?_); refine box_event ?hg (N := 4) ?hd (cs := #[.int .i64 kd, .int .i64 px, .int .i64 py, .string key, .string val, .int .i64 cli, .int .i64 seq]) (t := 46) ?hr ?_; (case hd => rfl); (case hg => rfl); (case hr => first | (go_simp; done) | (go_simp; rfl)); intro gx hg w4 hbox hb; have HX := Aside0.mk hbox; replace HI := Aside0.mk (HI.out.below hb); have HS6 := Aside0.mk (HK.out.1); replace HK := Aside0.mk (HK.out.trans (KeepBut.of_below hb g none) (.inl rfl)); replace HB := Aside0.mk (below_then HB.out HB.out.size hb); clear HS6; clear hbox hb hg) | ((with_reducible refine gate_dst (N := 6) rfl ?_); refine box_event ?hg (N := 6) ?hd (cs := #[.int .i64 0, .int .i64 0, .int .i64 0, .string ⟨#[]⟩, .string ⟨#[]⟩, .int .i64 0, .int .i64 0]) (t := 46) ?hr ?_; (case hd => rfl); (case hg => rfl); (case hr => first | (go_simp; done) | (go_simp; rfl)); intro g6 hg w6 hbox hb; have H6 := Aside0.mk hbox; replace HX := Aside0.mk (blk_below HX.out hb); have HG6 := Aside0.mk (show w.heap.size ≤ g6 by rw [hg]; exact HK.out.1); replace HI := Aside0.mk (HI.out.below hb); have HS6 := Aside0.mk (HK.out.1); replace HK := Aside0.mk (HK.out.trans (KeepBut.of_below hb g none) (.inl rfl)); replace HB := Aside0.mk (below_then HB.out HB.out.size hb); clear HS6; clear hbox hb hg) | fail)
  refine (wire_Reader_Err.calls g l e true w0 _ HI.out).mono ?_
  rintro e2 wE ⟨rfl, rfl⟩
  rw [if_pos (rfl : true = true)]
  go_wp2_with (first | ((with_reducible refine gate_dst (N := 7) rfl ?_); refine box_event ?hg (N := 7) ?hd (cs := #[.int .i64 0, .int .i64 0, .int .i64 0, .string ⟨#[]⟩, .string ⟨#[]⟩, .int .i64 0, .int .i64 0]) (t := 46) ?hr ?_; (case hd => rfl); (case hg => rfl); (case hr => first | (go_simp; done) | (go_simp; rfl)); intro g7 hg w7 hbox hb; replace HX := Aside0.mk (blk_below HX.out hb); replace H6 := Aside0.mk (blk_below H6.out hb); replace HI := Aside0.mk (HI.out.below hb); have HS6 := Aside0.mk (HK.out.1); replace HK := Aside0.mk (HK.out.trans (KeepBut.of_below hb g none) (.inl rfl)); replace HB := Aside0.mk (below_then HB.out HB.out.size hb); clear HS6; have z0 := blk_cell hbox 0; have z1 := blk_cell hbox 1; have z2 := blk_cell hbox 2; have z3 := blk_cell hbox 3; have z4 := blk_cell hbox 4; have z5 := blk_cell hbox 5; have z6 := blk_cell hbox 6; have s0 := blk_cell H6.out 0; have f0 := blk_frozen H6.out 0; have s1 := blk_cell H6.out 1; have f1 := blk_frozen H6.out 1; have s2 := blk_cell H6.out 2; have f2 := blk_frozen H6.out 2; have s3 := blk_cell H6.out 3; have f3 := blk_frozen H6.out 3; have s4 := blk_cell H6.out 4; have f4 := blk_frozen H6.out 4; have s5 := blk_cell H6.out 5; have f5 := blk_frozen H6.out 5; have s6 := blk_cell H6.out 6; have f6 := blk_frozen H6.out 6; clear hbox hb hg) | fail)
  exact bodyPost_ret (results_cell_row rfl _ _ g6 46 #[.int .i64 0, .int .i64 0, .int .i64 0, .string ⟨#[]⟩, .string ⟨#[]⟩, .int .i64 0, .int .i64 0] (0, 0) _ rfl (blk_put (blk_put (blk_put (blk_put (blk_put (blk_put (blk_put (H6.out) 0 (.int .i64 0) rfl) 1 (.int .i64 0) rfl) 2 (.int .i64 0) rfl) 3 (.string ⟨#[]⟩) rfl) 4 (.string ⟨#[]⟩) rfl) 5 (.int .i64 0) rfl) 6 (.int .i64 0) rfl) Try.underlying46 rfl rfl) rfl ⟨rfl, HI.out.keep ((((((((KeepBut.refl _ g6 none).set_ 0 (.int .i64 0)).set_ 1 (.int .i64 0)).set_ 2 (.int .i64 0)).set_ 3 (.string ⟨#[]⟩)).set_ 4 (.string ⟨#[]⟩)).set_ 5 (.int .i64 0)).set_ 6 (.int .i64 0)) (HI.out.at_ne H6.out (by decide)) H6.out (by decide), below_set (below_set (below_set (below_set (below_set (below_set (below_set (HB.out) (Nat.le_trans HSZ.out HG6.out)) (Nat.le_trans HSZ.out HG6.out)) (Nat.le_trans HSZ.out HG6.out)) (Nat.le_trans HSZ.out HG6.out)) (Nat.le_trans HSZ.out HG6.out)) (Nat.le_trans HSZ.out HG6.out)) (Nat.le_trans HSZ.out HG6.out), keep_new HK.out ((((((((KeepBut.refl _ g6 none).set_ 0 (.int .i64 0)).set_ 1 (.int .i64 0)).set_ 2 (.int .i64 0)).set_ 3 (.string ⟨#[]⟩)).set_ 4 (.string ⟨#[]⟩)).set_ 5 (.int .i64 0)).set_ 6 (.int .i64 0)) HG6.out⟩

end
section
open Go.RowKit Go.Proofs.YtiglmgmkablpkaaW.PrintWords Go.Proofs.YtiglmgmkablpkaaW.PrintLast Go.Proofs.YtiglmgmkablpkaaW.PrintMore
attribute [local go_sem] max2_int min2_int max_two min_two max_three min_three max_four min_four   -- for this text's walks alone
set_option linter.unusedVariables false
set_option linter.unusedSimpArgs false

--OWN Derived.RegionTactic,Derived.BigRegion,Derived.Laws.Rows
/-! ### point_TakeOp: function 19 -/
set_option maxHeartbeats 8000000 in
set_option maxRecDepth 100000 in
theorem point_TakeOp.calls (k : Nat) (g : Nat) (l : List Int) (e : Int) (kd : Int) (l0 : List Int) (e0 : Int) (h0 : rdNum l e true = (kd, l0, e0)) (px : Int) (l1 : List Int) (e1 : Int) (h1 : rdNum l0 e0 true = (px, l1, e1)) (py : Int) (l2 : List Int) (e2 : Int) (h2 : rdNum l1 e1 true = (py, l2, e2)) (key : List Int) (l3 : List Int) (e3 : Int) (h3 : rdText l2 e2 true 32 = (key, l3, e3)) (val : List Int) (l4 : List Int) (e4 : Int) (h4 : rdText l3 e3 true 32 = (val, l4, e4)) (cli : Int) (l5 : List Int) (e5 : Int) (h5 : rdNum l4 e4 true = (cli, l5, e5)) (seq : Int) (l6 : List Int) (e6 : Int) (h6 : rdNum l5 e5 true = (seq, l6, e6)) (r : Bool) (hR : point_RightOp.f k kd px py (strOfNums key) (strOfNums val) cli seq = some r) (w0 w : World) (hI : IsRdr w0 w g l e true) (hB : Below w0.heap.size w0 w) :
    Calls Try.prog 19 #[.pointer (some ⟨g, 0, none⟩)] w fun ed w' => ed = .returned (.agg (if tkE r e6 = 0 then #[.int .i64 kd, .int .i64 px, .int .i64 py, .string (strOfNums key), .string (strOfNums val), .int .i64 cli, .int .i64 seq] else #[.int .i64 0, .int .i64 0, .int .i64 0, .string ⟨#[]⟩, .string ⟨#[]⟩, .int .i64 0, .int .i64 0])) ∧ IsRdr w0 w' g l6 (tkE r e6) true ∧ Below w0.heap.size w0 w' ∧ KeepBut w w' g none := by
  have HI := Aside0.mk hI
  have HB := Aside0.mk hB
  have HK := Aside0.mk (KeepBut.refl w g none)
  have HSZ := Aside0.mk hB.size
  have HR := Aside0.mk hR
  have Q0 := Aside0.mk h0
  have Q1 := Aside0.mk h1
  have Q2 := Aside0.mk h2
  have Q3 := Aside0.mk h3
  have Q4 := Aside0.mk h4
  have Q5 := Aside0.mk h5
  have Q6 := Aside0.mk h6
  clear hI hB hR h0 h1 h2 h3 h4 h5 h6
  obtain ⟨ok, hok⟩ : ∃ b, b = r := ⟨_, rfl⟩
  rw [← hok]
  have HOK := Aside0.mk hok
  clear hok
  obtain ⟨z, hz⟩ : ∃ z, z = tkE ok e6 := ⟨_, rfl⟩
  rw [← hz]
  have HZ := Aside0.mk hz
  clear hz
  obtain ⟨RV, hrv⟩ : ∃ v : Array Value, v = (if z = 0 then #[.int .i64 kd, .int .i64 px, .int .i64 py, .string (strOfNums key), .string (strOfNums val), .int .i64 cli, .int .i64 seq] else #[.int .i64 0, .int .i64 0, .int .i64 0, .string ⟨#[]⟩, .string ⟨#[]⟩, .int .i64 0, .int .i64 0]) := ⟨_, rfl⟩
  rw [← hrv]
  have HRV := Aside0.mk hrv
  clear hrv
  go_enter Try.func19, Try.ntmps19
  go_wp2_with (first | ((with_reducible refine gate_dst (N := 2) rfl ?_); refine box_event ?hg (N := 2) ?hd (cs := #[.int .i64 0, .int .i64 0, .int .i64 0, .string ⟨#[]⟩, .string ⟨#[]⟩, .int .i64 0, .int .i64 0]) (t := 46) ?hr ?_; (case hd => rfl); (case hg => rfl); (case hr => first | (go_simp; done) | (go_simp; rfl)); intro g2 hg w2 hbox hb; have H2 := Aside0.mk hbox; have HG2 := Aside0.mk (show w.heap.size ≤ g2 by rw [hg]; exact HK.out.1); replace HI := Aside0.mk (HI.out.below hb); have HS6 := Aside0.mk (HK.out.1); replace HK := Aside0.mk (HK.out.trans (KeepBut.of_below hb g none) (.inl rfl)); replace HB := Aside0.mk (below_then HB.out HB.out.size hb); clear HS6; clear hbox hb hg) | fail)
  have hq := wire_Reader_Num.calls g l e true w0 _ HI.out HB.out
  rw [Q0.out] at hq
  dsimp only at hq
  refine hq.mono ?_
  clear hq
  rintro ed0 wr0 ⟨rfl, hi, hbx, hk⟩
  replace H2 := Aside0.mk (hk.blk H2.out (HI.out.at_ne H2.out (by decide)) (by simp))
  replace HK := Aside0.mk (HK.out.trans hk (.inl rfl))
  replace HI := Aside0.mk hi
  replace HB := Aside0.mk hbx
  clear hi hbx hk
  go_wp2_with fail
  have hq := wire_Reader_Num.calls g l0 e0 true w0 _ HI.out HB.out
  rw [Q1.out] at hq
  dsimp only at hq
  refine hq.mono ?_
  clear hq
  rintro ed1 wr1 ⟨rfl, hi, hbx, hk⟩
  replace H2 := Aside0.mk (hk.blk H2.out (HI.out.at_ne H2.out (by decide)) (by simp))
  replace HK := Aside0.mk (HK.out.trans hk (.inl rfl))
  replace HI := Aside0.mk hi
  replace HB := Aside0.mk hbx
  clear hi hbx hk
  go_wp2_with fail
  have hq := wire_Reader_Num.calls g l1 e1 true w0 _ HI.out HB.out
  rw [Q2.out] at hq
  dsimp only at hq
  refine hq.mono ?_
  clear hq
  rintro ed2 wr2 ⟨rfl, hi, hbx, hk⟩
  replace H2 := Aside0.mk (hk.blk H2.out (HI.out.at_ne H2.out (by decide)) (by simp))
  replace HK := Aside0.mk (HK.out.trans hk (.inl rfl))
  replace HI := Aside0.mk hi
  replace HB := Aside0.mk hbx
  clear hi hbx hk
  go_wp2_with fail
  have hq := wire_Reader_Text.calls g l2 e2 true 32 w0 _ HI.out HB.out
  rw [Q3.out] at hq
  dsimp only at hq
  refine hq.mono ?_
  clear hq
  rintro ed3 wr3 ⟨rfl, hi, hbx, hk⟩
  replace H2 := Aside0.mk (hk.blk H2.out (HI.out.at_ne H2.out (by decide)) (by simp))
  replace HK := Aside0.mk (HK.out.trans hk (.inl rfl))
  replace HI := Aside0.mk hi
  replace HB := Aside0.mk hbx
  clear hi hbx hk
  go_wp2_with fail
  have hq := wire_Reader_Text.calls g l3 e3 true 32 w0 _ HI.out HB.out
  rw [Q4.out] at hq
  dsimp only at hq
  refine hq.mono ?_
  clear hq
  rintro ed4 wr4 ⟨rfl, hi, hbx, hk⟩
  replace H2 := Aside0.mk (hk.blk H2.out (HI.out.at_ne H2.out (by decide)) (by simp))
  replace HK := Aside0.mk (HK.out.trans hk (.inl rfl))
  replace HI := Aside0.mk hi
  replace HB := Aside0.mk hbx
  clear hi hbx hk
  go_wp2_with fail
  have hq := wire_Reader_Num.calls g l4 e4 true w0 _ HI.out HB.out
  rw [Q5.out] at hq
  dsimp only at hq
  refine hq.mono ?_
  clear hq
  rintro ed5 wr5 ⟨rfl, hi, hbx, hk⟩
  replace H2 := Aside0.mk (hk.blk H2.out (HI.out.at_ne H2.out (by decide)) (by simp))
  replace HK := Aside0.mk (HK.out.trans hk (.inl rfl))
  replace HI := Aside0.mk hi
  replace HB := Aside0.mk hbx
  clear hi hbx hk
  go_wp2_with fail
  have hq := wire_Reader_Num.calls g l5 e5 true w0 _ HI.out HB.out
  rw [Q6.out] at hq
  dsimp only at hq
  refine hq.mono ?_
  clear hq
  rintro ed6 wr6 ⟨rfl, hi, hbx, hk⟩
  replace H2 := Aside0.mk (hk.blk H2.out (HI.out.at_ne H2.out (by decide)) (by simp))
  replace HK := Aside0.mk (HK.out.trans hk (.inl rfl))
  replace HI := Aside0.mk hi
  replace HB := Aside0.mk hbx
  clear hi hbx hk
  go_wp2_with (first | ((with_reducible refine gate_dst (N := 3) rfl ?_); refine box_event ?hg (N := 3) ?hd (cs := #[.int .i64 0, .int .i64 0, .int .i64 0, .string ⟨#[]⟩, .string ⟨#[]⟩, .int .i64 0, .int .i64 0]) (t := 46) ?hr ?_; (case hd => rfl); (case hg => rfl); (case hr => first | (go_simp; done) | (go_simp; rfl)); intro g3 hg w3 hbox hb; have H3 := Aside0.mk hbox; have HNE := Aside0.mk (show g2 ≠ g3 by have := blk_lt H2.out; omega); have HG3 := Aside0.mk (show w.heap.size ≤ g3 by rw [hg]; exact HK.out.1); replace H2 := Aside0.mk (blk_below H2.out hb); replace HI := Aside0.mk (HI.out.below hb); have HS6 := Aside0.mk (HK.out.1); replace HK := Aside0.mk (HK.out.trans (KeepBut.of_below hb g none) (.inl rfl)); replace HB := Aside0.mk (below_then HB.out HB.out.size hb); clear HS6; have s0 := blk_cell hbox 0; have f0 := blk_frozen hbox 0; have s1 := blk_cell hbox 1; have f1 := blk_frozen hbox 1; have s2 := blk_cell hbox 2; have f2 := blk_frozen hbox 2; have s3 := blk_cell hbox 3; have f3 := blk_frozen hbox 3; have s4 := blk_cell hbox 4; have f4 := blk_frozen hbox 4; have s5 := blk_cell hbox 5; have f5 := blk_frozen hbox 5; have s6 := blk_cell hbox 6; have f6 := blk_frozen hbox 6; clear hbox hb hg) | fail)
  clear s0 f0 s1 f1 s2 f2 s3 f3 s4 f4 s5 f5 s6 f6
  have HX := Aside0.mk (show ((World.setCell (World.setCell (World.setCell (World.setCell (World.setCell (World.setCell (World.setCell w3 ⟨g3, 0, none⟩ (.int .i64 kd)) ⟨g3, 1, none⟩ (.int .i64 px)) ⟨g3, 2, none⟩ (.int .i64 py)) ⟨g3, 3, none⟩ (.string (strOfNums key))) ⟨g3, 4, none⟩ (.string (strOfNums val))) ⟨g3, 5, none⟩ (.int .i64 cli)) ⟨g3, 6, none⟩ (.int .i64 seq))).heap[g3]? = some (.cells #[.int .i64 kd, .int .i64 px, .int .i64 py, .string (strOfNums key), .string (strOfNums val), .int .i64 cli, .int .i64 seq] 46 (0, 0)) from blk_put (blk_put (blk_put (blk_put (blk_put (blk_put (blk_put (H3.out) 0 (.int .i64 kd) rfl) 1 (.int .i64 px) rfl) 2 (.int .i64 py) rfl) 3 (.string (strOfNums key)) rfl) 4 (.string (strOfNums val)) rfl) 5 (.int .i64 cli) rfl) 6 (.int .i64 seq) rfl)
  replace H2 := Aside0.mk (((((((((KeepBut.refl w3 g3 none).set_ 0 (.int .i64 kd)).set_ 1 (.int .i64 px)).set_ 2 (.int .i64 py)).set_ 3 (.string (strOfNums key))).set_ 4 (.string (strOfNums val))).set_ 5 (.int .i64 cli)).set_ 6 (.int .i64 seq)).blk H2.out HNE.out (by simp))
  replace HI := Aside0.mk (HI.out.keep ((((((((KeepBut.refl w3 g3 none).set_ 0 (.int .i64 kd)).set_ 1 (.int .i64 px)).set_ 2 (.int .i64 py)).set_ 3 (.string (strOfNums key))).set_ 4 (.string (strOfNums val))).set_ 5 (.int .i64 cli)).set_ 6 (.int .i64 seq)) (HI.out.at_ne H3.out (by decide)) H3.out (by decide))
  replace HB := Aside0.mk (show Below w0.heap.size w0 (World.setCell (World.setCell (World.setCell (World.setCell (World.setCell (World.setCell (World.setCell w3 ⟨g3, 0, none⟩ (.int .i64 kd)) ⟨g3, 1, none⟩ (.int .i64 px)) ⟨g3, 2, none⟩ (.int .i64 py)) ⟨g3, 3, none⟩ (.string (strOfNums key))) ⟨g3, 4, none⟩ (.string (strOfNums val))) ⟨g3, 5, none⟩ (.int .i64 cli)) ⟨g3, 6, none⟩ (.int .i64 seq)) from below_set (below_set (below_set (below_set (below_set (below_set (below_set (HB.out) (Nat.le_trans HSZ.out HG3.out)) (Nat.le_trans HSZ.out HG3.out)) (Nat.le_trans HSZ.out HG3.out)) (Nat.le_trans HSZ.out HG3.out)) (Nat.le_trans HSZ.out HG3.out)) (Nat.le_trans HSZ.out HG3.out)) (Nat.le_trans HSZ.out HG3.out))
  replace HK := Aside0.mk (keep_new HK.out ((((((((KeepBut.refl w3 g3 none).set_ 0 (.int .i64 kd)).set_ 1 (.int .i64 px)).set_ 2 (.int .i64 py)).set_ 3 (.string (strOfNums key))).set_ 4 (.string (strOfNums val))).set_ 5 (.int .i64 cli)).set_ 6 (.int .i64 seq)) HG3.out)
  obtain ⟨W, hW⟩ : ∃ W, W = (World.setCell (World.setCell (World.setCell (World.setCell (World.setCell (World.setCell (World.setCell w3 ⟨g3, 0, none⟩ (.int .i64 kd)) ⟨g3, 1, none⟩ (.int .i64 px)) ⟨g3, 2, none⟩ (.int .i64 py)) ⟨g3, 3, none⟩ (.string (strOfNums key))) ⟨g3, 4, none⟩ (.string (strOfNums val))) ⟨g3, 5, none⟩ (.int .i64 cli)) ⟨g3, 6, none⟩ (.int .i64 seq)) := ⟨_, rfl⟩
  rw [← hW] at HX H2 HI HB HK
  rw [← hW]
  clear hW H3
  have hokr : ok = r := HOK.out
  subst hokr
  by_cases h0 : z = 0
  focus
    have hv := HRV.out.trans (if_pos h0)
    subst hv
    have H0 := Aside0.mk h0
    clear h0
    refine start_ (n := 6) (S := fun w' => w'.cell? ⟨g3, 0, none⟩ = some (.int .i64 kd) ∧ w'.cell? ⟨g3, 1, none⟩ = some (.int .i64 px) ∧ w'.cell? ⟨g3, 2, none⟩ = some (.int .i64 py) ∧ w'.cell? ⟨g3, 3, none⟩ = some (.string (strOfNums key)) ∧ w'.cell? ⟨g3, 4, none⟩ = some (.string (strOfNums val)) ∧ w'.cell? ⟨g3, 5, none⟩ = some (.int .i64 cli) ∧ w'.cell? ⟨g3, 6, none⟩ = some (.int .i64 seq)) (ds := [5]) #[false, false, false, false, false, false] (by kernel_rfl) rfl rfl ⟨(blk_cell HX.out 0), (blk_cell HX.out 1), (blk_cell HX.out 2), (blk_cell HX.out 3), (blk_cell HX.out 4), (blk_cell HX.out 5), (blk_cell HX.out 6)⟩ (fun hHeld => ?_)
    refine pure_ (i := 0) (N := some 20) (v := ?_) (a' := ?_) #[true, false, false, false, false, false] rfl rfl (by kernel_rfl) (fun _ _ _ h => h) (Or.inl ⟨by rfl, ?_⟩) ?_ ?_
    rotate_left
    · intro w'
      go_simp
      with_reducible rfl
    rotate_left
    · simp only [Act.put, List.setIfInBounds_toArray, List.set_cons_zero, List.set_cons_succ, i64_w, i32_w]
      rfl
    refine take_ (i := 1) (N := some 21) (v := ?_) (a' := ?_) #[true, true, false, false, false, false] rfl rfl (by kernel_rfl) (fun _ _ _ h => h) (Or.inl ⟨by rfl, ?_⟩) hHeld ?_ ?_
    rotate_left
    · rintro w' ⟨s0, s1, s2, s3, s4, s5, s6⟩
      go_simp
      with_reducible rfl
    rotate_left
    · simp only [Act.put, List.setIfInBounds_toArray, List.set_cons_zero, List.set_cons_succ, i64_w, i32_w]
      rfl
    refine take_ (i := 2) (N := some 22) (v := ?_) (a' := ?_) #[true, true, true, false, false, false] rfl rfl (by kernel_rfl) (fun _ _ _ h => h) (Or.inl ⟨by rfl, ?_⟩) hHeld ?_ ?_
    rotate_left
    · rintro w' ⟨s0, s1, s2, s3, s4, s5, s6⟩
      go_simp
      with_reducible rfl
    rotate_left
    · simp only [Act.put, List.setIfInBounds_toArray, List.set_cons_zero, List.set_cons_succ, i64_w, i32_w]
      rfl
    refine one_ (i := 3) (N := some 23) #[true, true, true, true, false, false] rfl rfl (by kernel_rfl) (by decide) (fun K hK => ?_)
    refine goes_ Try.func35 (by kernel_rfl) rfl #[.agg #[.int .i64 kd, .int .i64 px, .int .i64 py, .string (strOfNums key), .string (strOfNums val), .int .i64 cli, .int .i64 seq]] (by rfl) rfl rfl (by simp only [List.map_toArray, List.map_cons, List.map_nil]; rfl) ?_
    with_reducible refine (point_RightOp.calls k kd px py (strOfNums key) (strOfNums val) cli seq ok _ HR.out).mono ?_
    rintro ed wx ⟨rfl, hbx⟩
    refine ⟨_, rfl, ?_⟩
    replace HX := Aside0.mk (blk_below (by first | exact HX.out | exact blk_drew HX.out) hbx)
    replace H2 := Aside0.mk (blk_below (by first | exact H2.out | exact blk_drew H2.out) hbx)
    replace HI := Aside0.mk (IsRdr.below (by first | exact HI.out | exact HI.out.drew) hbx)
    replace HK := Aside0.mk (KeepBut.trans (by first | exact HK.out | exact keep_drew HK.out) (KeepBut.of_below hbx g none) (.inl rfl))
    replace HB := Aside0.mk (show Below w0.heap.size w0 wx from by first | exact below_then HB.out HB.out.size hbx | exact below_then (below_drew HB.out) (below_drew HB.out).size hbx)
    clear hbx
    refine hK.out _ _ ⟨(blk_cell HX.out 0), (blk_cell HX.out 1), (blk_cell HX.out 2), (blk_cell HX.out 3), (blk_cell HX.out 4), (blk_cell HX.out 5), (blk_cell HX.out 6)⟩ (fun hHeld => ?_)
    clear hK K
    refine norm_ (a' := ?_) ?_ ?_
    rotate_left
    · show Act.put _ (some 23) _ = _
      simp only [Act.put, List.setIfInBounds_toArray, List.set_cons_zero, List.set_cons_succ, i64_w, i32_w]
      rfl
    refine one_ (i := 4) (N := some 24) #[true, true, true, true, true, false] rfl rfl (by kernel_rfl) (by decide) (fun K hK => ?_)
    refine goes_ Try.func52 (by kernel_rfl) rfl #[.pointer (some ⟨g, 0, none⟩), .agg #[.int .i64 kd, .int .i64 px, .int .i64 py, .string (strOfNums key), .string (strOfNums val), .int .i64 cli, .int .i64 seq], .bool ok] (by rfl) rfl rfl (by simp only [List.map_toArray, List.map_cons, List.map_nil]; rfl) ?_
    with_reducible refine (point_Op.calls g l6 e6 kd px py (strOfNums key) (strOfNums val) cli seq ok w0 _ (by first | exact HI.out | exact HI.out.drew) (by first | exact HB.out | exact below_drew HB.out)).mono ?_
    rintro ed wx ⟨rfl, hi, hbx, hk⟩
    refine ⟨_, rfl, ?_⟩
    rw [← HZ.out] at hi ⊢
    rw [if_pos H0.out]
    replace HX := Aside0.mk (hk.blk (by first | exact HX.out | exact blk_drew HX.out) (HI.out.at_ne HX.out (by decide)) (by simp))
    replace H2 := Aside0.mk (hk.blk (by first | exact H2.out | exact blk_drew H2.out) (HI.out.at_ne H2.out (by decide)) (by simp))
    replace HK := Aside0.mk (KeepBut.trans (by first | exact HK.out | exact keep_drew HK.out) hk (.inl rfl))
    replace HI := Aside0.mk hi
    replace HB := Aside0.mk hbx
    clear hi hbx hk
    have s0 := blk_cell H2.out 0
    have f0 := blk_frozen H2.out 0
    have s1 := blk_cell H2.out 1
    have f1 := blk_frozen H2.out 1
    have s2 := blk_cell H2.out 2
    have f2 := blk_frozen H2.out 2
    have s3 := blk_cell H2.out 3
    have f3 := blk_frozen H2.out 3
    have s4 := blk_cell H2.out 4
    have f4 := blk_frozen H2.out 4
    have s5 := blk_cell H2.out 5
    have f5 := blk_frozen H2.out 5
    have s6 := blk_cell H2.out 6
    have f6 := blk_frozen H2.out 6
    have fd0 := blk_frozen (blk_drew H2.out) 0
    refine hK.out _ _ ⟨(blk_cell HX.out 0), (blk_cell HX.out 1), (blk_cell HX.out 2), (blk_cell HX.out 3), (blk_cell HX.out 4), (blk_cell HX.out 5), (blk_cell HX.out 6)⟩ (fun hHeld => ?_)
    clear hK K
    refine norm_ (a' := ?_) ?_ ?_
    rotate_left
    · show Act.put _ (some 24) _ = _
      simp only [Act.put, List.setIfInBounds_toArray, List.set_cons_zero, List.set_cons_succ, i64_w, i32_w]
      rfl
    refine last_ (i := 5) (N := none) #[true, true, true, true, true, true] rfl rfl (by kernel_rfl) (by decide) (fun K hK => ?_)
    refine skip_ (w1 := ?_) (by rfl) rfl ?_ ?_
    rotate_left
    · go_simp
      rfl
    refine hK.out _ _ ?_
    clear hK K
    refine done_ (by kernel_rfl) ?_
    go_wp2_with fail
    exact bodyPost_ret (results_cell_row rfl _ _ g2 46 #[.int .i64 kd, .int .i64 px, .int .i64 py, .string (strOfNums key), .string (strOfNums val), .int .i64 cli, .int .i64 seq] (0, 0) _ rfl (blk_put (blk_put (blk_put (blk_put (blk_put (blk_put (blk_put (H2.out) 0 (.int .i64 kd) rfl) 1 (.int .i64 px) rfl) 2 (.int .i64 py) rfl) 3 (.string (strOfNums key)) rfl) 4 (.string (strOfNums val)) rfl) 5 (.int .i64 cli) rfl) 6 (.int .i64 seq) rfl) Try.underlying46 rfl rfl) rfl ⟨rfl, HI.out.keep ((((((((KeepBut.refl _ g2 none).set_ 0 (.int .i64 kd)).set_ 1 (.int .i64 px)).set_ 2 (.int .i64 py)).set_ 3 (.string (strOfNums key))).set_ 4 (.string (strOfNums val))).set_ 5 (.int .i64 cli)).set_ 6 (.int .i64 seq)) (HI.out.at_ne H2.out (by decide)) H2.out (by decide), below_set (below_set (below_set (below_set (below_set (below_set (below_set (HB.out) (Nat.le_trans HSZ.out HG2.out)) (Nat.le_trans HSZ.out HG2.out)) (Nat.le_trans HSZ.out HG2.out)) (Nat.le_trans HSZ.out HG2.out)) (Nat.le_trans HSZ.out HG2.out)) (Nat.le_trans HSZ.out HG2.out)) (Nat.le_trans HSZ.out HG2.out), keep_new HK.out ((((((((KeepBut.refl _ g2 none).set_ 0 (.int .i64 kd)).set_ 1 (.int .i64 px)).set_ 2 (.int .i64 py)).set_ 3 (.string (strOfNums key))).set_ 4 (.string (strOfNums val))).set_ 5 (.int .i64 cli)).set_ 6 (.int .i64 seq)) HG2.out⟩
  have hv := HRV.out.trans (if_neg h0)
  subst hv
  have H0 := Aside0.mk h0
  clear h0
  refine start_ (n := 6) (S := fun w' => w'.cell? ⟨g3, 0, none⟩ = some (.int .i64 kd) ∧ w'.cell? ⟨g3, 1, none⟩ = some (.int .i64 px) ∧ w'.cell? ⟨g3, 2, none⟩ = some (.int .i64 py) ∧ w'.cell? ⟨g3, 3, none⟩ = some (.string (strOfNums key)) ∧ w'.cell? ⟨g3, 4, none⟩ = some (.string (strOfNums val)) ∧ w'.cell? ⟨g3, 5, none⟩ = some (.int .i64 cli) ∧ w'.cell? ⟨g3, 6, none⟩ = some (.int .i64 seq)) (ds := [5]) #[false, false, false, false, false, false] (by kernel_rfl) rfl rfl ⟨(blk_cell HX.out 0), (blk_cell HX.out 1), (blk_cell HX.out 2), (blk_cell HX.out 3), (blk_cell HX.out 4), (blk_cell HX.out 5), (blk_cell HX.out 6)⟩ (fun hHeld => ?_)
  refine pure_ (i := 0) (N := some 20) (v := ?_) (a' := ?_) #[true, false, false, false, false, false] rfl rfl (by kernel_rfl) (fun _ _ _ h => h) (Or.inl ⟨by rfl, ?_⟩) ?_ ?_
  rotate_left
  · intro w'
    go_simp
    with_reducible rfl
  rotate_left
  · simp only [Act.put, List.setIfInBounds_toArray, List.set_cons_zero, List.set_cons_succ, i64_w, i32_w]
    rfl
  refine take_ (i := 1) (N := some 21) (v := ?_) (a' := ?_) #[true, true, false, false, false, false] rfl rfl (by kernel_rfl) (fun _ _ _ h => h) (Or.inl ⟨by rfl, ?_⟩) hHeld ?_ ?_
  rotate_left
  · rintro w' ⟨s0, s1, s2, s3, s4, s5, s6⟩
    go_simp
    with_reducible rfl
  rotate_left
  · simp only [Act.put, List.setIfInBounds_toArray, List.set_cons_zero, List.set_cons_succ, i64_w, i32_w]
    rfl
  refine take_ (i := 2) (N := some 22) (v := ?_) (a' := ?_) #[true, true, true, false, false, false] rfl rfl (by kernel_rfl) (fun _ _ _ h => h) (Or.inl ⟨by rfl, ?_⟩) hHeld ?_ ?_
  rotate_left
  · rintro w' ⟨s0, s1, s2, s3, s4, s5, s6⟩
    go_simp
    with_reducible rfl
  rotate_left
  · simp only [Act.put, List.setIfInBounds_toArray, List.set_cons_zero, List.set_cons_succ, i64_w, i32_w]
    rfl
  refine one_ (i := 3) (N := some 23) #[true, true, true, true, false, false] rfl rfl (by kernel_rfl) (by decide) (fun K hK => ?_)
  refine goes_ Try.func35 (by kernel_rfl) rfl #[.agg #[.int .i64 kd, .int .i64 px, .int .i64 py, .string (strOfNums key), .string (strOfNums val), .int .i64 cli, .int .i64 seq]] (by rfl) rfl rfl (by simp only [List.map_toArray, List.map_cons, List.map_nil]; rfl) ?_
  with_reducible refine (point_RightOp.calls k kd px py (strOfNums key) (strOfNums val) cli seq ok _ HR.out).mono ?_
  rintro ed wx ⟨rfl, hbx⟩
  refine ⟨_, rfl, ?_⟩
  replace HX := Aside0.mk (blk_below (by first | exact HX.out | exact blk_drew HX.out) hbx)
  replace H2 := Aside0.mk (blk_below (by first | exact H2.out | exact blk_drew H2.out) hbx)
  replace HI := Aside0.mk (IsRdr.below (by first | exact HI.out | exact HI.out.drew) hbx)
  replace HK := Aside0.mk (KeepBut.trans (by first | exact HK.out | exact keep_drew HK.out) (KeepBut.of_below hbx g none) (.inl rfl))
  replace HB := Aside0.mk (show Below w0.heap.size w0 wx from by first | exact below_then HB.out HB.out.size hbx | exact below_then (below_drew HB.out) (below_drew HB.out).size hbx)
  clear hbx
  refine hK.out _ _ ⟨(blk_cell HX.out 0), (blk_cell HX.out 1), (blk_cell HX.out 2), (blk_cell HX.out 3), (blk_cell HX.out 4), (blk_cell HX.out 5), (blk_cell HX.out 6)⟩ (fun hHeld => ?_)
  clear hK K
  refine norm_ (a' := ?_) ?_ ?_
  rotate_left
  · show Act.put _ (some 23) _ = _
    simp only [Act.put, List.setIfInBounds_toArray, List.set_cons_zero, List.set_cons_succ, i64_w, i32_w]
    rfl
  refine one_ (i := 4) (N := some 24) #[true, true, true, true, true, false] rfl rfl (by kernel_rfl) (by decide) (fun K hK => ?_)
  refine goes_ Try.func52 (by kernel_rfl) rfl #[.pointer (some ⟨g, 0, none⟩), .agg #[.int .i64 kd, .int .i64 px, .int .i64 py, .string (strOfNums key), .string (strOfNums val), .int .i64 cli, .int .i64 seq], .bool ok] (by rfl) rfl rfl (by simp only [List.map_toArray, List.map_cons, List.map_nil]; rfl) ?_
  with_reducible refine (point_Op.calls g l6 e6 kd px py (strOfNums key) (strOfNums val) cli seq ok w0 _ (by first | exact HI.out | exact HI.out.drew) (by first | exact HB.out | exact below_drew HB.out)).mono ?_
  rintro ed wx ⟨rfl, hi, hbx, hk⟩
  refine ⟨_, rfl, ?_⟩
  rw [← HZ.out] at hi ⊢
  rw [if_neg H0.out]
  replace HX := Aside0.mk (hk.blk (by first | exact HX.out | exact blk_drew HX.out) (HI.out.at_ne HX.out (by decide)) (by simp))
  replace H2 := Aside0.mk (hk.blk (by first | exact H2.out | exact blk_drew H2.out) (HI.out.at_ne H2.out (by decide)) (by simp))
  replace HK := Aside0.mk (KeepBut.trans (by first | exact HK.out | exact keep_drew HK.out) hk (.inl rfl))
  replace HI := Aside0.mk hi
  replace HB := Aside0.mk hbx
  clear hi hbx hk
  have s0 := blk_cell H2.out 0
  have f0 := blk_frozen H2.out 0
  have s1 := blk_cell H2.out 1
  have f1 := blk_frozen H2.out 1
  have s2 := blk_cell H2.out 2
  have f2 := blk_frozen H2.out 2
  have s3 := blk_cell H2.out 3
  have f3 := blk_frozen H2.out 3
  have s4 := blk_cell H2.out 4
  have f4 := blk_frozen H2.out 4
  have s5 := blk_cell H2.out 5
  have f5 := blk_frozen H2.out 5
  have s6 := blk_cell H2.out 6
  have f6 := blk_frozen H2.out 6
  have fd0 := blk_frozen (blk_drew H2.out) 0
  refine hK.out _ _ ⟨(blk_cell HX.out 0), (blk_cell HX.out 1), (blk_cell HX.out 2), (blk_cell HX.out 3), (blk_cell HX.out 4), (blk_cell HX.out 5), (blk_cell HX.out 6)⟩ (fun hHeld => ?_)
  clear hK K
  refine norm_ (a' := ?_) ?_ ?_
  rotate_left
  · show Act.put _ (some 24) _ = _
    simp only [Act.put, List.setIfInBounds_toArray, List.set_cons_zero, List.set_cons_succ, i64_w, i32_w]
    rfl
  refine last_ (i := 5) (N := none) #[true, true, true, true, true, true] rfl rfl (by kernel_rfl) (by decide) (fun K hK => ?_)
  refine skip_ (w1 := ?_) (by rfl) rfl ?_ ?_
  rotate_left
  · go_simp
    rfl
  refine hK.out _ _ ?_
  clear hK K
  refine done_ (by kernel_rfl) ?_
  go_wp2_with fail
  exact bodyPost_ret (results_cell_row rfl _ _ g2 46 #[.int .i64 0, .int .i64 0, .int .i64 0, .string ⟨#[]⟩, .string ⟨#[]⟩, .int .i64 0, .int .i64 0] (0, 0) _ rfl (blk_put (blk_put (blk_put (blk_put (blk_put (blk_put (blk_put (H2.out) 0 (.int .i64 0) rfl) 1 (.int .i64 0) rfl) 2 (.int .i64 0) rfl) 3 (.string ⟨#[]⟩) rfl) 4 (.string ⟨#[]⟩) rfl) 5 (.int .i64 0) rfl) 6 (.int .i64 0) rfl) Try.underlying46 rfl rfl) rfl ⟨rfl, HI.out.keep ((((((((KeepBut.refl _ g2 none).set_ 0 (.int .i64 0)).set_ 1 (.int .i64 0)).set_ 2 (.int .i64 0)).set_ 3 (.string ⟨#[]⟩)).set_ 4 (.string ⟨#[]⟩)).set_ 5 (.int .i64 0)).set_ 6 (.int .i64 0)) (HI.out.at_ne H2.out (by decide)) H2.out (by decide), below_set (below_set (below_set (below_set (below_set (below_set (below_set (HB.out) (Nat.le_trans HSZ.out HG2.out)) (Nat.le_trans HSZ.out HG2.out)) (Nat.le_trans HSZ.out HG2.out)) (Nat.le_trans HSZ.out HG2.out)) (Nat.le_trans HSZ.out HG2.out)) (Nat.le_trans HSZ.out HG2.out)) (Nat.le_trans HSZ.out HG2.out), keep_new HK.out ((((((((KeepBut.refl _ g2 none).set_ 0 (.int .i64 0)).set_ 1 (.int .i64 0)).set_ 2 (.int .i64 0)).set_ 3 (.string ⟨#[]⟩)).set_ 4 (.string ⟨#[]⟩)).set_ 5 (.int .i64 0)).set_ 6 (.int .i64 0)) HG2.out⟩

end
section
open Go.RowKit Go.Proofs.YtiglmgmkablpkaaW.PrintWords Go.Proofs.YtiglmgmkablpkaaW.PrintLast Go.Proofs.YtiglmgmkablpkaaW.PrintMore
attribute [local go_sem] max2_int min2_int max_two min_two max_three min_three max_four min_four   -- for this text's walks alone
set_option linter.unusedVariables false
set_option linter.unusedSimpArgs false

/-! ### glebelaw07_RefAns: function 21 -/
def glebelaw07_RefAns.f (a0_0 : Int) (a0_1 : Bool) (a0_2 : ByteArray) (a0_3 : Int) : Option (Int × Bool × ByteArray × Int) := some (a0_0, a0_1, a0_2, a0_3)
set_option maxHeartbeats 8000000 in
set_option maxRecDepth 100000 in
theorem glebelaw07_RefAns.calls (a0_0 : Int) (a0_1 : Bool) (a0_2 : ByteArray) (a0_3 : Int) (r1 : Int) (r2 : Bool) (r3 : ByteArray) (r4 : Int) (w : World) (h : glebelaw07_RefAns.f a0_0 a0_1 a0_2 a0_3 = some (r1, r2, r3, r4)) :
    Calls Try.prog 21 #[.agg #[.int .i64 a0_0, .bool a0_1, .string a0_2, .int .i64 a0_3]] w fun e w' => e = .returned (.agg #[.int .i64 r1, .bool r2, .string r3, .int .i64 r4]) ∧ Below w.heap.size w w' := by
  have hu53 := Try.underlying53
  have hu50 := Try.underlying50
  have HB := Aside0.mk (Below.refl w.heap.size w)
  have H : (some (a0_0, a0_1, a0_2, a0_3)) = some (r1, r2, r3, r4) := h
  clear h
  simp only [Option.some.injEq, Prod.mk.injEq] at H
  obtain ⟨rfl, rfl, rfl, rfl⟩ := H
  go_enter Try.func21, Try.ntmps21
  go_wp2_with (first | ((with_reducible refine gate_dst (N := 1) rfl ?_); refine box_event ?hg (N := 1) ?hd (cs := #[.int .i64 a0_0, .bool a0_1, .string a0_2, .int .i64 a0_3]) (t := 53) ?hr ?_; (case hd => rfl); (case hg => rfl); (case hr => first | (go_simp; done) | (go_simp; rfl)); intro gb274 hg w2 hbox hb; have n0_ := Aside0.mk (below_step (by repeat (first | (with_reducible first | exact HB.out | apply below_alloc | apply pw_below_drewN | apply below_drew1) | exact HB.out)) hb); have n1_ := Aside0.mk (hbox); have n2_ := Aside0.mk ((by rw [hg]; exact (below_size (by repeat (first | (with_reducible first | exact HB.out | apply below_alloc | apply pw_below_drewN | apply below_drew1) | exact HB.out))) : w.heap.size ≤ gb274)); have n3_ := Aside0.mk ((by rw [hg]; exact (below_size (by repeat (first | (with_reducible first | exact HB.out | apply below_alloc | apply pw_below_drewN | apply below_drew1) | exact HB.out))) : w.heap.size ≤ gb274)); clear HB; have HB := n0_; have BK274 := n1_; have GW274 := n2_; have GE274 := n3_; clear n0_ n1_ n2_ n3_; clear hb hbox hg) | ((with_reducible refine gate_dst (N := 2) rfl ?_); refine box_event ?hg (N := 2) ?hd (cs := #[.int .i64 0, .bool false, .string (⟨#[]⟩ : ByteArray), .int .i64 0]) (t := 50) ?hr ?_; (case hd => rfl); (case hg => rfl); (case hr => first | (go_simp; done) | (go_simp; rfl)); intro gb275 hg w3 hbox hb; have n0_ := Aside0.mk (blk_below (g := gb274) (o := .cells #[.int .i64 a0_0, .bool a0_1, .string a0_2, .int .i64 a0_3] 53 (0, 0)) (by (with_reducible repeat (first | refine blk_drewN ?_ _ | refine blk_drew ?_ | refine blk_alloc ?_ _)); exact BK274.out) hb); have n1_ := Aside0.mk (below_step (by repeat (first | (with_reducible first | exact HB.out | apply below_alloc | apply pw_below_drewN | apply below_drew1 | refine below_set ?_ GE274.out) | exact HB.out)) hb); have n2_ := Aside0.mk (hbox); have n3_ := Aside0.mk ((by rw [hg]; exact (below_size (by repeat (first | (with_reducible first | exact HB.out | apply below_alloc | apply pw_below_drewN | apply below_drew1 | refine below_set ?_ GE274.out) | exact HB.out))) : w.heap.size ≤ gb275)); have n4_ := Aside0.mk ((by rw [hg]; exact (below_size (by repeat (first | (with_reducible first | exact HB.out | apply below_alloc | apply pw_below_drewN | apply below_drew1 | refine below_set ?_ GE274.out) | exact HB.out))) : w.heap.size ≤ gb275)); have n5_ := Aside0.mk ((by rw [hg]; exact Nat.ne_of_lt (blk_lt (g := gb274) (o := .cells #[.int .i64 a0_0, .bool a0_1, .string a0_2, .int .i64 a0_3] 53 (0, 0)) (by (with_reducible repeat (first | refine blk_drewN ?_ _ | refine blk_drew ?_ | refine blk_alloc ?_ _)); exact BK274.out)) : gb274 ≠ gb275)); have n6_ := Aside0.mk ((by rw [hg]; exact Nat.ne_of_gt (blk_lt (g := gb274) (o := .cells #[.int .i64 a0_0, .bool a0_1, .string a0_2, .int .i64 a0_3] 53 (0, 0)) (by (with_reducible repeat (first | refine blk_drewN ?_ _ | refine blk_drew ?_ | refine blk_alloc ?_ _)); exact BK274.out)) : gb275 ≠ gb274)); clear BK274; clear HB; have BK274 := n0_; have HB := n1_; have BK275 := n2_; have GW275 := n3_; have GE275 := n4_; have NB274_275 := n5_; have NB275_274 := n6_; clear n0_ n1_ n2_ n3_ n4_ n5_ n6_; clear hb hbox hg; have hnb4 := NB274_275.out; have hnc4 := NB275_274.out; have hcz5_0 : w3.cell? ⟨gb274, 0, none⟩ = some (.int .i64 a0_0) := (blk_cell BK274.out 0).trans rfl; have hcz5_1 : w3.cell? ⟨gb274, 1, none⟩ = some (.bool a0_1) := (blk_cell BK274.out 1).trans rfl; have hcz5_2 : w3.cell? ⟨gb274, 2, none⟩ = some (.string a0_2) := (blk_cell BK274.out 2).trans rfl; have hcz5_3 : w3.cell? ⟨gb274, 3, none⟩ = some (.int .i64 a0_3) := (blk_cell BK274.out 3).trans rfl; have hfz5_0 := blk_frozen BK274.out 0; have hfz5_1 := blk_frozen BK274.out 1; have hfz5_2 := blk_frozen BK274.out 2; have hfz5_3 := blk_frozen BK274.out 3; have hcz6_0 : w3.cell? ⟨gb275, 0, none⟩ = some (.int .i64 0) := (blk_cell BK275.out 0).trans rfl; have hcz6_1 : w3.cell? ⟨gb275, 1, none⟩ = some (.bool false) := (blk_cell BK275.out 1).trans rfl; have hcz6_2 : w3.cell? ⟨gb275, 2, none⟩ = some (.string (⟨#[]⟩ : ByteArray)) := (blk_cell BK275.out 2).trans rfl; have hcz6_3 : w3.cell? ⟨gb275, 3, none⟩ = some (.int .i64 0) := (blk_cell BK275.out 3).trans rfl; have hfz6_0 := blk_frozen BK275.out 0; have hfz6_1 := blk_frozen BK275.out 1; have hfz6_2 := blk_frozen BK275.out 2; have hfz6_3 := blk_frozen BK275.out 3))
  refine bodyPost_ret (results_cell_row rfl _ _ gb275 50 #[.int .i64 a0_0, .bool a0_1, .string a0_2, .int .i64 a0_3] (0, 0) _ rfl (by (with_reducible repeat (first | refine blk_drewN ?_ _ | refine blk_drew ?_ | refine blk_alloc ?_ _)); refine blk_put (cs := #[.int .i64 a0_0, .bool a0_1, .string a0_2, .int .i64 0]) ?_ 3 _ rfl; (with_reducible repeat (first | refine blk_drewN ?_ _ | refine blk_drew ?_ | refine blk_alloc ?_ _)); refine blk_put (cs := #[.int .i64 a0_0, .bool a0_1, .string (⟨#[]⟩ : ByteArray), .int .i64 0]) ?_ 2 _ rfl; (with_reducible repeat (first | refine blk_drewN ?_ _ | refine blk_drew ?_ | refine blk_alloc ?_ _)); refine blk_put (cs := #[.int .i64 a0_0, .bool false, .string (⟨#[]⟩ : ByteArray), .int .i64 0]) ?_ 1 _ rfl; (with_reducible repeat (first | refine blk_drewN ?_ _ | refine blk_drew ?_ | refine blk_alloc ?_ _)); refine blk_put (cs := #[.int .i64 0, .bool false, .string (⟨#[]⟩ : ByteArray), .int .i64 0]) ?_ 0 _ rfl; (with_reducible repeat (first | refine blk_drewN ?_ _ | refine blk_drew ?_ | refine blk_alloc ?_ _)); exact BK275.out) Try.underlying50 rfl (by kernel_rfl)) rfl ?_
  exact ⟨by first | rfl | (simp [errW_none, errW_some] <;> rfl) | (simp [*, errW_none, errW_some] <;> rfl), by repeat (first | (with_reducible first | exact HB.out | apply below_alloc | apply pw_below_drewN | apply below_drew1 | refine below_set ?_ GE274.out | refine below_set ?_ GE275.out) | exact HB.out)⟩

end
section
open Go.RowKit Go.Proofs.YtiglmgmkablpkaaW.PrintWords Go.Proofs.YtiglmgmkablpkaaW.PrintLast Go.Proofs.YtiglmgmkablpkaaW.PrintMore
attribute [local go_sem] max2_int min2_int max_two min_two max_three min_three max_four min_four   -- for this text's walks alone
set_option linter.unusedVariables false
set_option linter.unusedSimpArgs false

--OWN Derived.RegionTactic,Derived.BigRegion,Derived.Laws.Rows
/-! ### point_Ans: function 53 -/
set_option maxHeartbeats 4000000 in
set_option maxRecDepth 100000 in
theorem point_Ans.calls (g : Nat) (l : List Int) (e : Int) (ae : Int) (af : Bool) (av : ByteArray) (an : Int) (ok : Bool) (w0 w : World) (hI : IsRdr w0 w g l e true) (hB : Below w0.heap.size w0 w) :
    Calls Try.prog 53 #[.pointer (some ⟨g, 0, none⟩), .agg #[.int .i64 ae, .bool af, .string av, .int .i64 an], .bool ok] w fun ed w' => ed = .returned (.agg (if tkE ok e = 0 then #[.int .i64 ae, .bool af, .string av, .int .i64 an] else #[.int .i64 0, .bool false, .string ⟨#[]⟩, .int .i64 0])) ∧ IsRdr w0 w' g l (tkE ok e) true ∧ Below w0.heap.size w0 w' ∧ KeepBut w w' g none := by
  have HI := Aside0.mk hI
  have HB := Aside0.mk hB
  have HK := Aside0.mk (KeepBut.refl w g none)
  have HSZ := Aside0.mk hB.size
  clear hI hB
  cases ok
  focus
    by_cases h0 : e = 0
    focus
      subst h0
      rw [show tkE false 0 = 21 from rfl, if_neg (by decide : ¬ (21 : Int) = 0)]
      go_enter Try.func53, Try.ntmps53
      go_wp2_with (first | ((with_reducible refine gate_dst (N := 4) rfl ?_); refine box_event ?hg (N := 4) ?hd (cs := #[.int .i64 ae, .bool af, .string av, .int .i64 an]) (t := 53) ?hr ?_; (case hd => rfl); (case hg => rfl); (case hr => first | (go_simp; done) | (go_simp; rfl)); intro gx hg w4 hbox hb; have HX := Aside0.mk hbox; replace HI := Aside0.mk (HI.out.below hb); have HS6 := Aside0.mk (HK.out.1); replace HK := Aside0.mk (HK.out.trans (KeepBut.of_below hb g none) (.inl rfl)); replace HB := Aside0.mk (below_then HB.out HB.out.size hb); clear HS6; clear hbox hb hg) | ((with_reducible refine gate_dst (N := 6) rfl ?_); refine box_event ?hg (N := 6) ?hd (cs := #[.int .i64 0, .bool false, .string ⟨#[]⟩, .int .i64 0]) (t := 53) ?hr ?_; (case hd => rfl); (case hg => rfl); (case hr => first | (go_simp; done) | (go_simp; rfl)); intro g6 hg w6 hbox hb; have H6 := Aside0.mk hbox; replace HX := Aside0.mk (blk_below HX.out hb); have HG6 := Aside0.mk (show w.heap.size ≤ g6 by rw [hg]; exact HK.out.1); replace HI := Aside0.mk (HI.out.below hb); have HS6 := Aside0.mk (HK.out.1); replace HK := Aside0.mk (HK.out.trans (KeepBut.of_below hb g none) (.inl rfl)); replace HB := Aside0.mk (below_then HB.out HB.out.size hb); clear HS6; clear hbox hb hg) | fail)
      refine (wire_Reader_Fail.calls g l 0 true 21 w0 _ HI.out HB.out).mono ?_
      rintro e1 wF ⟨rfl, hi, hbx, hk⟩
      replace HX := Aside0.mk (hk.blk HX.out (HI.out.at_ne HX.out (by decide)) (by simp))
      replace H6 := Aside0.mk (hk.blk H6.out (HI.out.at_ne H6.out (by decide)) (by simp))
      replace HK := Aside0.mk (HK.out.trans hk (.inl rfl))
      replace HB := Aside0.mk hbx
      replace HI := Aside0.mk (show IsRdr w0 wF g l 21 true from hi)
      clear hi hbx hk
      go_wp2_with fail
      refine (wire_Reader_Err.calls g l 21 true w0 _ HI.out).mono ?_
      rintro e2 wE ⟨rfl, rfl⟩
      rw [if_pos (rfl : true = true)]
      go_wp2_with (first | ((with_reducible refine gate_dst (N := 7) rfl ?_); refine box_event ?hg (N := 7) ?hd (cs := #[.int .i64 0, .bool false, .string ⟨#[]⟩, .int .i64 0]) (t := 53) ?hr ?_; (case hd => rfl); (case hg => rfl); (case hr => first | (go_simp; done) | (go_simp; rfl)); intro g7 hg w7 hbox hb; replace HX := Aside0.mk (blk_below HX.out hb); replace H6 := Aside0.mk (blk_below H6.out hb); replace HI := Aside0.mk (HI.out.below hb); have HS6 := Aside0.mk (HK.out.1); replace HK := Aside0.mk (HK.out.trans (KeepBut.of_below hb g none) (.inl rfl)); replace HB := Aside0.mk (below_then HB.out HB.out.size hb); clear HS6; have z0 := blk_cell hbox 0; have z1 := blk_cell hbox 1; have z2 := blk_cell hbox 2; have z3 := blk_cell hbox 3; have s0 := blk_cell H6.out 0; have f0 := blk_frozen H6.out 0; have s1 := blk_cell H6.out 1; have f1 := blk_frozen H6.out 1; have s2 := blk_cell H6.out 2; have f2 := blk_frozen H6.out 2; have s3 := blk_cell H6.out 3; have f3 := blk_frozen H6.out 3; clear hbox hb hg) | fail)
      exact bodyPost_ret (results_cell_row rfl _ _ g6 53 #[.int .i64 0, .bool false, .string ⟨#[]⟩, .int .i64 0] (0, 0) _ rfl (blk_put (blk_put (blk_put (blk_put (H6.out) 0 (.int .i64 0) rfl) 1 (.bool false) rfl) 2 (.string ⟨#[]⟩) rfl) 3 (.int .i64 0) rfl) Try.underlying53 rfl rfl) rfl ⟨rfl, HI.out.keep (((((KeepBut.refl _ g6 none).set_ 0 (.int .i64 0)).set_ 1 (.bool false)).set_ 2 (.string ⟨#[]⟩)).set_ 3 (.int .i64 0)) (HI.out.at_ne H6.out (by decide)) H6.out (by decide), below_set (below_set (below_set (below_set (HB.out) (Nat.le_trans HSZ.out HG6.out)) (Nat.le_trans HSZ.out HG6.out)) (Nat.le_trans HSZ.out HG6.out)) (Nat.le_trans HSZ.out HG6.out), keep_new HK.out (((((KeepBut.refl _ g6 none).set_ 0 (.int .i64 0)).set_ 1 (.bool false)).set_ 2 (.string ⟨#[]⟩)).set_ 3 (.int .i64 0)) HG6.out⟩
    have he : tkE false e = e := if_neg h0
    have he1 : (e == 0) = false := beq_eq_false_iff_ne.mpr h0
    have he2 : (e != 0) = true := bne_iff_ne.mpr h0
    rw [he, if_neg h0]
    clear he
    have hr : (if rdOk e true = true then (21 : Int) else e) = e := if_neg (by unfold rdOk; rw [he1]; simp)
    have HR_ := Aside0.mk hr
    clear hr he1
    go_enter Try.func53, Try.ntmps53
    go_wp2_with (first | ((with_reducible refine gate_dst (N := 4) rfl ?_); refine box_event ?hg (N := 4) ?hd (cs := #[.int .i64 ae, .bool af, .string av, .int .i64 an]) (t := 53) ?hr ?_; (case hd => rfl); (case hg => rfl); (case hr => first | (go_simp; done) | (go_simp; rfl)); intro gx hg w4 hbox hb; have HX := Aside0.mk hbox; replace HI := Aside0.mk (HI.out.below hb); have HS6 := Aside0.mk (HK.out.1); replace HK := Aside0.mk (HK.out.trans (KeepBut.of_below hb g none) (.inl rfl)); replace HB := Aside0.mk (below_then HB.out HB.out.size hb); clear HS6; clear hbox hb hg) | ((with_reducible refine gate_dst (N := 6) rfl ?_); refine box_event ?hg (N := 6) ?hd (cs := #[.int .i64 0, .bool false, .string ⟨#[]⟩, .int .i64 0]) (t := 53) ?hr ?_; (case hd => rfl); (case hg => rfl); (case hr => first | (go_simp; done) | (go_simp; rfl)); intro g6 hg w6 hbox hb; have H6 := Aside0.mk hbox; replace HX := Aside0.mk (blk_below HX.out hb); have HG6 := Aside0.mk (show w.heap.size ≤ g6 by rw [hg]; exact HK.out.1); replace HI := Aside0.mk (HI.out.below hb); have HS6 := Aside0.mk (HK.out.1); replace HK := Aside0.mk (HK.out.trans (KeepBut.of_below hb g none) (.inl rfl)); replace HB := Aside0.mk (below_then HB.out HB.out.size hb); clear HS6; clear hbox hb hg) | fail)
    refine (wire_Reader_Fail.calls g l e true 21 w0 _ HI.out HB.out).mono ?_
    rintro e1 wF ⟨rfl, hi, hbx, hk⟩
    replace HX := Aside0.mk (hk.blk HX.out (HI.out.at_ne HX.out (by decide)) (by simp))
    replace H6 := Aside0.mk (hk.blk H6.out (HI.out.at_ne H6.out (by decide)) (by simp))
    replace HK := Aside0.mk (HK.out.trans hk (.inl rfl))
    replace HB := Aside0.mk hbx
    rw [HR_.out] at hi
    replace HI := Aside0.mk hi
    clear hi hbx hk
    go_wp2_with fail
    refine (wire_Reader_Err.calls g l e true w0 _ HI.out).mono ?_
    rintro e2 wE ⟨rfl, rfl⟩
    rw [if_pos (rfl : true = true)]
    go_wp2_with (first | ((with_reducible refine gate_dst (N := 7) rfl ?_); refine box_event ?hg (N := 7) ?hd (cs := #[.int .i64 0, .bool false, .string ⟨#[]⟩, .int .i64 0]) (t := 53) ?hr ?_; (case hd => rfl); (case hg => rfl); (case hr => first | (go_simp; done) | (go_simp; rfl)); intro g7 hg w7 hbox hb; replace HX := Aside0.mk (blk_below HX.out hb); replace H6 := Aside0.mk (blk_below H6.out hb); replace HI := Aside0.mk (HI.out.below hb); have HS6 := Aside0.mk (HK.out.1); replace HK := Aside0.mk (HK.out.trans (KeepBut.of_below hb g none) (.inl rfl)); replace HB := Aside0.mk (below_then HB.out HB.out.size hb); clear HS6; have z0 := blk_cell hbox 0; have z1 := blk_cell hbox 1; have z2 := blk_cell hbox 2; have z3 := blk_cell hbox 3; have s0 := blk_cell H6.out 0; have f0 := blk_frozen H6.out 0; have s1 := blk_cell H6.out 1; have f1 := blk_frozen H6.out 1; have s2 := blk_cell H6.out 2; have f2 := blk_frozen H6.out 2; have s3 := blk_cell H6.out 3; have f3 := blk_frozen H6.out 3; clear hbox hb hg) | fail)
    exact bodyPost_ret (results_cell_row rfl _ _ g6 53 #[.int .i64 0, .bool false, .string ⟨#[]⟩, .int .i64 0] (0, 0) _ rfl (blk_put (blk_put (blk_put (blk_put (H6.out) 0 (.int .i64 0) rfl) 1 (.bool false) rfl) 2 (.string ⟨#[]⟩) rfl) 3 (.int .i64 0) rfl) Try.underlying53 rfl rfl) rfl ⟨rfl, HI.out.keep (((((KeepBut.refl _ g6 none).set_ 0 (.int .i64 0)).set_ 1 (.bool false)).set_ 2 (.string ⟨#[]⟩)).set_ 3 (.int .i64 0)) (HI.out.at_ne H6.out (by decide)) H6.out (by decide), below_set (below_set (below_set (below_set (HB.out) (Nat.le_trans HSZ.out HG6.out)) (Nat.le_trans HSZ.out HG6.out)) (Nat.le_trans HSZ.out HG6.out)) (Nat.le_trans HSZ.out HG6.out), keep_new HK.out (((((KeepBut.refl _ g6 none).set_ 0 (.int .i64 0)).set_ 1 (.bool false)).set_ 2 (.string ⟨#[]⟩)).set_ 3 (.int .i64 0)) HG6.out⟩
  by_cases h0 : e = 0
  focus
    subst h0
    rw [show tkE true 0 = 0 from rfl, if_pos (rfl : (0 : Int) = 0)]
    go_enter Try.func53, Try.ntmps53
    go_wp2_with (first | ((with_reducible refine gate_dst (N := 4) rfl ?_); refine box_event ?hg (N := 4) ?hd (cs := #[.int .i64 ae, .bool af, .string av, .int .i64 an]) (t := 53) ?hr ?_; (case hd => rfl); (case hg => rfl); (case hr => first | (go_simp; done) | (go_simp; rfl)); intro gx hg w4 hbox hb; have HX := Aside0.mk hbox; replace HI := Aside0.mk (HI.out.below hb); have HS6 := Aside0.mk (HK.out.1); replace HK := Aside0.mk (HK.out.trans (KeepBut.of_below hb g none) (.inl rfl)); replace HB := Aside0.mk (below_then HB.out HB.out.size hb); clear HS6; clear hbox hb hg) | ((with_reducible refine gate_dst (N := 6) rfl ?_); refine box_event ?hg (N := 6) ?hd (cs := #[.int .i64 0, .bool false, .string ⟨#[]⟩, .int .i64 0]) (t := 53) ?hr ?_; (case hd => rfl); (case hg => rfl); (case hr => first | (go_simp; done) | (go_simp; rfl)); intro g6 hg w6 hbox hb; have H6 := Aside0.mk hbox; replace HX := Aside0.mk (blk_below HX.out hb); have HG6 := Aside0.mk (show w.heap.size ≤ g6 by rw [hg]; exact HK.out.1); replace HI := Aside0.mk (HI.out.below hb); have HS6 := Aside0.mk (HK.out.1); replace HK := Aside0.mk (HK.out.trans (KeepBut.of_below hb g none) (.inl rfl)); replace HB := Aside0.mk (below_then HB.out HB.out.size hb); clear HS6; clear hbox hb hg) | fail)
    refine (wire_Reader_Err.calls g l 0 true w0 _ HI.out).mono ?_
    rintro e2 wE ⟨rfl, rfl⟩
    rw [if_pos (rfl : true = true)]
    have h0 := blk_cell HX.out 0
    have h1 := blk_cell HX.out 1
    have h2 := blk_cell HX.out 2
    have h3 := blk_cell HX.out 3
    have s0 := blk_cell H6.out 0
    have s1 := blk_cell H6.out 1
    have s2 := blk_cell H6.out 2
    have s3 := blk_cell H6.out 3
    have f0 := blk_frozen H6.out 0
    have f1 := blk_frozen H6.out 1
    have f2 := blk_frozen H6.out 2
    have f3 := blk_frozen H6.out 3
    go_wp2
    exact bodyPost_ret (results_cell_row rfl _ _ g6 53 #[.int .i64 ae, .bool af, .string av, .int .i64 an] (0, 0) _ rfl (blk_put (blk_put (blk_put (blk_put (H6.out) 0 (.int .i64 ae) rfl) 1 (.bool af) rfl) 2 (.string av) rfl) 3 (.int .i64 an) rfl) Try.underlying53 rfl rfl) rfl ⟨rfl, HI.out.keep (((((KeepBut.refl _ g6 none).set_ 0 (.int .i64 ae)).set_ 1 (.bool af)).set_ 2 (.string av)).set_ 3 (.int .i64 an)) (HI.out.at_ne H6.out (by decide)) H6.out (by decide), below_set (below_set (below_set (below_set (HB.out) (Nat.le_trans HSZ.out HG6.out)) (Nat.le_trans HSZ.out HG6.out)) (Nat.le_trans HSZ.out HG6.out)) (Nat.le_trans HSZ.out HG6.out), keep_new HK.out (((((KeepBut.refl _ g6 none).set_ 0 (.int .i64 ae)).set_ 1 (.bool af)).set_ 2 (.string av)).set_ 3 (.int .i64 an)) HG6.out⟩
  have he : tkE true e = e := rfl
  have he2 : (e != 0) = true := bne_iff_ne.mpr h0
  rw [he, if_neg h0]
  clear he
  go_enter Try.func53, Try.ntmps53
  go_wp2_with (first | ((with_reducible refine gate_dst (N := 4) rfl ?_); refine box_event ?hg (N := 4) ?hd (cs := #[.int .i64 ae, .bool af, .string av, .int .i64 an]) (t := 53) ?hr ?_; (case hd => rfl); (case hg => rfl); (case hr => first | (go_simp; done) | (go_simp; rfl)); intro gx hg w4 hbox hb; have HX := Aside0.mk hbox; replace HI := Aside0.mk (HI.out.below hb); have HS6 := Aside0.mk (HK.out.1); replace HK := Aside0.mk (HK.out.trans (KeepBut.of_below hb g none) (.inl rfl)); replace HB := Aside0.mk (below_then HB.out HB.out.size hb); clear HS6; clear hbox hb hg) | ((with_reducible refine gate_dst (N := 6) rfl ?_); refine box_event ?hg (N := 6) ?hd (cs := #[.int .i64 0, .bool false, .string ⟨#[]⟩, .int .i64 0]) (t := 53) ?hr ?_; (case hd => rfl); (case hg => rfl); (case hr => first | (go_simp; done) | (go_simp; rfl)); intro g6 hg w6 hbox hb; have H6 := Aside0.mk hbox; replace HX := Aside0.mk (blk_below HX.out hb); have HG6 := Aside0.mk (show w.heap.size ≤ g6 by rw [hg]; exact HK.out.1); replace HI := Aside0.mk (HI.out.below hb); have HS6 := Aside0.mk (HK.out.1); replace HK := Aside0.mk (HK.out.trans (KeepBut.of_below hb g none) (.inl rfl)); replace HB := Aside0.mk (below_then HB.out HB.out.size hb); clear HS6; clear hbox hb hg) | fail)
  refine (wire_Reader_Err.calls g l e true w0 _ HI.out).mono ?_
  rintro e2 wE ⟨rfl, rfl⟩
  rw [if_pos (rfl : true = true)]
  go_wp2_with (first | ((with_reducible refine gate_dst (N := 7) rfl ?_); refine box_event ?hg (N := 7) ?hd (cs := #[.int .i64 0, .bool false, .string ⟨#[]⟩, .int .i64 0]) (t := 53) ?hr ?_; (case hd => rfl); (case hg => rfl); (case hr => first | (go_simp; done) | (go_simp; rfl)); intro g7 hg w7 hbox hb; replace HX := Aside0.mk (blk_below HX.out hb); replace H6 := Aside0.mk (blk_below H6.out hb); replace HI := Aside0.mk (HI.out.below hb); have HS6 := Aside0.mk (HK.out.1); replace HK := Aside0.mk (HK.out.trans (KeepBut.of_below hb g none) (.inl rfl)); replace HB := Aside0.mk (below_then HB.out HB.out.size hb); clear HS6; have z0 := blk_cell hbox 0; have z1 := blk_cell hbox 1; have z2 := blk_cell hbox 2; have z3 := blk_cell hbox 3; have s0 := blk_cell H6.out 0; have f0 := blk_frozen H6.out 0; have s1 := blk_cell H6.out 1; have f1 := blk_frozen H6.out 1; have s2 := blk_cell H6.out 2; have f2 := blk_frozen H6.out 2; have s3 := blk_cell H6.out 3; have f3 := blk_frozen H6.out 3; clear hbox hb hg) | fail)
  exact bodyPost_ret (results_cell_row rfl _ _ g6 53 #[.int .i64 0, .bool false, .string ⟨#[]⟩, .int .i64 0] (0, 0) _ rfl (blk_put (blk_put (blk_put (blk_put (H6.out) 0 (.int .i64 0) rfl) 1 (.bool false) rfl) 2 (.string ⟨#[]⟩) rfl) 3 (.int .i64 0) rfl) Try.underlying53 rfl rfl) rfl ⟨rfl, HI.out.keep (((((KeepBut.refl _ g6 none).set_ 0 (.int .i64 0)).set_ 1 (.bool false)).set_ 2 (.string ⟨#[]⟩)).set_ 3 (.int .i64 0)) (HI.out.at_ne H6.out (by decide)) H6.out (by decide), below_set (below_set (below_set (below_set (HB.out) (Nat.le_trans HSZ.out HG6.out)) (Nat.le_trans HSZ.out HG6.out)) (Nat.le_trans HSZ.out HG6.out)) (Nat.le_trans HSZ.out HG6.out), keep_new HK.out (((((KeepBut.refl _ g6 none).set_ 0 (.int .i64 0)).set_ 1 (.bool false)).set_ 2 (.string ⟨#[]⟩)).set_ 3 (.int .i64 0)) HG6.out⟩

end
section
open Go.RowKit Go.Proofs.YtiglmgmkablpkaaW.PrintWords Go.Proofs.YtiglmgmkablpkaaW.PrintLast Go.Proofs.YtiglmgmkablpkaaW.PrintMore
attribute [local go_sem] max2_int min2_int max_two min_two max_three min_three max_four min_four   -- for this text's walks alone
set_option linter.unusedVariables false
set_option linter.unusedSimpArgs false

--OWN Derived.RegionTactic,Derived.BigRegion,Derived.Laws.Rows
/-! ### point_TakeAns: function 22 -/
def point_TakeAns.T3 : Bool × List (List Nat × List Nat) := (true, [([], []), ([], []), ([], []), ([2], [2]), ([3], [3]), ([4], [4]), ([5, 4, 4], [4, 5]), ([4, 6], [4, 6]), ([0, 1, 7, 6], [0, 1, 7]), ([8, 8, 0, 1, 2, 3, 4, 5, 6, 7, 8], [8])])
def point_TakeAns.B3 : List Nat := [0, 0, 0, 4, 12, 28, 60, 124, 255, 511]
theorem point_TakeAns.tab3 : rtab .any (opsOf Try.f22 3) = point_TakeAns.T3 := by kernel_rfl
theorem point_TakeAns.bits3 : waitsOk point_TakeAns.T3.2 point_TakeAns.B3 = true := by kernel_rfl
set_option maxHeartbeats 8000000 in
set_option maxRecDepth 100000 in
theorem point_TakeAns.calls (k : Nat) (g : Nat) (l : List Int) (e : Int) (ae : Int) (l0 : List Int) (e0 : Int) (h0 : rdNum l e true = (ae, l0, e0)) (fo : Int) (l1 : List Int) (e1 : Int) (h1 : rdNum l0 e0 true = (fo, l1, e1)) (av : List Int) (l2 : List Int) (e2 : Int) (h2 : rdText l1 e1 true 32 = (av, l2, e2)) (an : Int) (l3 : List Int) (e3 : Int) (h3 : rdNum l2 e2 true = (an, l3, e3)) (r : Bool) (af : Bool) (haf : (fo == 1) = af) (hR : point_RightAns.f k ae af (strOfNums av) an = some r) (w0 w : World) (hI : IsRdr w0 w g l e true) (hB : Below w0.heap.size w0 w) :
    Calls Try.prog 22 #[.pointer (some ⟨g, 0, none⟩)] w fun ed w' => ed = .returned (.agg (if tkE (decide (fo ≤ 1) && r) e3 = 0 then #[.int .i64 ae, .bool af, .string (strOfNums av), .int .i64 an] else #[.int .i64 0, .bool false, .string ⟨#[]⟩, .int .i64 0])) ∧ IsRdr w0 w' g l3 (tkE (decide (fo ≤ 1) && r) e3) true ∧ Below w0.heap.size w0 w' ∧ KeepBut w w' g none := by
  have HI := Aside0.mk hI
  have HB := Aside0.mk hB
  have HK := Aside0.mk (KeepBut.refl w g none)
  have HSZ := Aside0.mk hB.size
  have HR := Aside0.mk hR
  have Q0 := Aside0.mk h0
  have Q1 := Aside0.mk h1
  have Q2 := Aside0.mk h2
  have Q3 := Aside0.mk h3
  clear hI hB hR h0 h1 h2 h3
  obtain ⟨ok, hok⟩ : ∃ b, b = (decide (fo ≤ 1) && r) := ⟨_, rfl⟩
  rw [← hok]
  have HOK := Aside0.mk hok
  clear hok
  obtain ⟨z, hz⟩ : ∃ z, z = tkE ok e3 := ⟨_, rfl⟩
  rw [← hz]
  have HZ := Aside0.mk hz
  clear hz
  obtain ⟨RV, hrv⟩ : ∃ v : Array Value, v = (if z = 0 then #[.int .i64 ae, .bool af, .string (strOfNums av), .int .i64 an] else #[.int .i64 0, .bool false, .string ⟨#[]⟩, .int .i64 0]) := ⟨_, rfl⟩
  rw [← hrv]
  have HRV := Aside0.mk hrv
  clear hrv
  go_enter Try.func22, Try.ntmps22
  go_wp2_with (first | ((with_reducible refine gate_dst (N := 2) rfl ?_); refine box_event ?hg (N := 2) ?hd (cs := #[.int .i64 0, .bool false, .string ⟨#[]⟩, .int .i64 0]) (t := 53) ?hr ?_; (case hd => rfl); (case hg => rfl); (case hr => first | (go_simp; done) | (go_simp; rfl)); intro g2 hg w2 hbox hb; have H2 := Aside0.mk hbox; have HG2 := Aside0.mk (show w.heap.size ≤ g2 by rw [hg]; exact HK.out.1); replace HI := Aside0.mk (HI.out.below hb); have HS6 := Aside0.mk (HK.out.1); replace HK := Aside0.mk (HK.out.trans (KeepBut.of_below hb g none) (.inl rfl)); replace HB := Aside0.mk (below_then HB.out HB.out.size hb); clear HS6; clear hbox hb hg) | fail)
  have hq := wire_Reader_Num.calls g l e true w0 _ HI.out HB.out
  rw [Q0.out] at hq
  dsimp only at hq
  refine hq.mono ?_
  clear hq
  rintro ed0 wr0 ⟨rfl, hi, hbx, hk⟩
  replace H2 := Aside0.mk (hk.blk H2.out (HI.out.at_ne H2.out (by decide)) (by simp))
  replace HK := Aside0.mk (HK.out.trans hk (.inl rfl))
  replace HI := Aside0.mk hi
  replace HB := Aside0.mk hbx
  clear hi hbx hk
  go_wp2_with fail
  have hq := wire_Reader_Num.calls g l0 e0 true w0 _ HI.out HB.out
  rw [Q1.out] at hq
  dsimp only at hq
  refine hq.mono ?_
  clear hq
  rintro ed1 wr1 ⟨rfl, hi, hbx, hk⟩
  replace H2 := Aside0.mk (hk.blk H2.out (HI.out.at_ne H2.out (by decide)) (by simp))
  replace HK := Aside0.mk (HK.out.trans hk (.inl rfl))
  replace HI := Aside0.mk hi
  replace HB := Aside0.mk hbx
  clear hi hbx hk
  go_wp2_with fail
  have hq := wire_Reader_Text.calls g l1 e1 true 32 w0 _ HI.out HB.out
  rw [Q2.out] at hq
  dsimp only at hq
  refine hq.mono ?_
  clear hq
  rintro ed2 wr2 ⟨rfl, hi, hbx, hk⟩
  replace H2 := Aside0.mk (hk.blk H2.out (HI.out.at_ne H2.out (by decide)) (by simp))
  replace HK := Aside0.mk (HK.out.trans hk (.inl rfl))
  replace HI := Aside0.mk hi
  replace HB := Aside0.mk hbx
  clear hi hbx hk
  go_wp2_with fail
  have hq := wire_Reader_Num.calls g l2 e2 true w0 _ HI.out HB.out
  rw [Q3.out] at hq
  dsimp only at hq
  refine hq.mono ?_
  clear hq
  rintro ed3 wr3 ⟨rfl, hi, hbx, hk⟩
  replace H2 := Aside0.mk (hk.blk H2.out (HI.out.at_ne H2.out (by decide)) (by simp))
  replace HK := Aside0.mk (HK.out.trans hk (.inl rfl))
  replace HI := Aside0.mk hi
  replace HB := Aside0.mk hbx
  clear hi hbx hk
  go_wp2_with (first | ((with_reducible refine gate_dst (N := 5) rfl ?_); refine box_event ?hg (N := 5) ?hd (cs := #[.int .i64 0, .bool false, .string ⟨#[]⟩, .int .i64 0]) (t := 53) ?hr ?_; (case hd => rfl); (case hg => rfl); (case hr => first | (go_simp; done) | (go_simp; rfl)); intro g3 hg w3 hbox hb; have H3 := Aside0.mk hbox; have HNE := Aside0.mk (show g2 ≠ g3 by have := blk_lt H2.out; omega); have HG3 := Aside0.mk (show w.heap.size ≤ g3 by rw [hg]; exact HK.out.1); replace H2 := Aside0.mk (blk_below H2.out hb); replace HI := Aside0.mk (HI.out.below hb); have HS6 := Aside0.mk (HK.out.1); replace HK := Aside0.mk (HK.out.trans (KeepBut.of_below hb g none) (.inl rfl)); replace HB := Aside0.mk (below_then HB.out HB.out.size hb); clear HS6; have s0 := blk_cell hbox 0; have f0 := blk_frozen hbox 0; have s1 := blk_cell hbox 1; have f1 := blk_frozen hbox 1; have s2 := blk_cell hbox 2; have f2 := blk_frozen hbox 2; have s3 := blk_cell hbox 3; have f3 := blk_frozen hbox 3; clear hbox hb hg) | fail)
  clear s0 f0 s1 f1 s2 f2 s3 f3
  have HX := Aside0.mk (show ((World.setCell (World.setCell (World.setCell (World.setCell w3 ⟨g3, 0, none⟩ (.int .i64 ae)) ⟨g3, 1, none⟩ (.bool af)) ⟨g3, 2, none⟩ (.string (strOfNums av))) ⟨g3, 3, none⟩ (.int .i64 an))).heap[g3]? = some (.cells #[.int .i64 ae, .bool af, .string (strOfNums av), .int .i64 an] 53 (0, 0)) from blk_put (blk_put (blk_put (blk_put (H3.out) 0 (.int .i64 ae) rfl) 1 (.bool af) rfl) 2 (.string (strOfNums av)) rfl) 3 (.int .i64 an) rfl)
  replace H2 := Aside0.mk ((((((KeepBut.refl w3 g3 none).set_ 0 (.int .i64 ae)).set_ 1 (.bool af)).set_ 2 (.string (strOfNums av))).set_ 3 (.int .i64 an)).blk H2.out HNE.out (by simp))
  replace HI := Aside0.mk (HI.out.keep (((((KeepBut.refl w3 g3 none).set_ 0 (.int .i64 ae)).set_ 1 (.bool af)).set_ 2 (.string (strOfNums av))).set_ 3 (.int .i64 an)) (HI.out.at_ne H3.out (by decide)) H3.out (by decide))
  replace HB := Aside0.mk (show Below w0.heap.size w0 (World.setCell (World.setCell (World.setCell (World.setCell w3 ⟨g3, 0, none⟩ (.int .i64 ae)) ⟨g3, 1, none⟩ (.bool af)) ⟨g3, 2, none⟩ (.string (strOfNums av))) ⟨g3, 3, none⟩ (.int .i64 an)) from below_set (below_set (below_set (below_set (HB.out) (Nat.le_trans HSZ.out HG3.out)) (Nat.le_trans HSZ.out HG3.out)) (Nat.le_trans HSZ.out HG3.out)) (Nat.le_trans HSZ.out HG3.out))
  replace HK := Aside0.mk (keep_new HK.out (((((KeepBut.refl w3 g3 none).set_ 0 (.int .i64 ae)).set_ 1 (.bool af)).set_ 2 (.string (strOfNums av))).set_ 3 (.int .i64 an)) HG3.out)
  obtain ⟨W, hW⟩ : ∃ W, W = (World.setCell (World.setCell (World.setCell (World.setCell w3 ⟨g3, 0, none⟩ (.int .i64 ae)) ⟨g3, 1, none⟩ (.bool af)) ⟨g3, 2, none⟩ (.string (strOfNums av))) ⟨g3, 3, none⟩ (.int .i64 an)) := ⟨_, rfl⟩
  rw [← hW] at HX H2 HI HB HK
  rw [← hW]
  clear hW H3
  by_cases hf : fo ≤ 1
  focus
    have hfb : decide (fo ≤ 1) = true := decide_eq_true hf
    have hokr : ok = r := by have := HOK.out; rw [hfb] at this; simpa using this
    subst hokr
    by_cases h0 : z = 0
    focus
      have hv := HRV.out.trans (if_pos h0)
      subst hv
      have H0 := Aside0.mk h0
      clear h0
      refine start_ (n := 10) (S := fun w' => w'.cell? ⟨g3, 0, none⟩ = some (.int .i64 ae) ∧ w'.cell? ⟨g3, 1, none⟩ = some (.bool af) ∧ w'.cell? ⟨g3, 2, none⟩ = some (.string (strOfNums av)) ∧ w'.cell? ⟨g3, 3, none⟩ = some (.int .i64 an)) (ds := [9]) #[false, false, false, false, false, false, false, false, false, false] (by kernel_rfl) rfl rfl ⟨(blk_cell HX.out 0), (blk_cell HX.out 1), (blk_cell HX.out 2), (blk_cell HX.out 3)⟩ (fun hHeld => ?_)
      refine with_tabW point_TakeAns.tab3 point_TakeAns.bits3 (fun HT_ HW_ => ?_)
      refine pure_ (i := 0) (N := some 18) (v := ?_) (a' := ?_) #[true, false, false, false, false, false, false, false, false, false] rfl rfl (any_of HT_.out (by kernel_rfl)) (fun _ _ _ h => h) (Or.inl ⟨by rfl, ?_⟩) ?_ ?_
      rotate_left
      · intro w'
        go_simp
        with_reducible rfl
      rotate_left
      · simp only [Act.put, List.setIfInBounds_toArray, List.set_cons_zero, List.set_cons_succ, i64_w, i32_w]
        rfl
      refine pure_ (i := 2) (N := some 20) (v := ?_) (a' := ?_) #[true, false, true, false, false, false, false, false, false, false] rfl rfl (any_of HT_.out (by kernel_rfl)) (fun _ _ _ h => h) (Or.inl ⟨by rfl, ?_⟩) ?_ ?_
      rotate_left
      · intro w'
        go_simp
        with_reducible rfl
      rotate_left
      · simp only [Act.put, List.setIfInBounds_toArray, List.set_cons_zero, List.set_cons_succ, i64_w, i32_w]
        rfl
      refine pure_ (i := 3) (N := some 21) (v := ?_) (a' := ?_) #[true, false, true, true, false, false, false, false, false, false] rfl rfl (any_of HT_.out (by kernel_rfl)) (fun _ _ _ h => h) (Or.inl ⟨by rfl, ?_⟩) ?_ ?_
      rotate_left
      · intro w'
        go_simp
        with_reducible rfl
      rotate_left
      · simp only [Act.put, List.setIfInBounds_toArray, List.set_cons_zero, List.set_cons_succ, i64_w, i32_w]
        rfl
      refine pure_ (i := 4) (N := some 22) (v := ?_) (a' := ?_) #[true, false, true, true, true, false, false, false, false, false] rfl rfl (any_of HT_.out (by kernel_rfl)) (fun _ _ _ h => h) (Or.inl ⟨by rfl, ?_⟩) ?_ ?_
      rotate_left
      · intro w'
        go_simp
        with_reducible rfl
      rotate_left
      · simp only [Act.put, List.setIfInBounds_toArray, List.set_cons_zero, List.set_cons_succ, i64_w, i32_w]
        rfl
      refine take_ (i := 1) (N := some 19) (v := ?_) (a' := ?_) #[true, true, true, true, true, false, false, false, false, false] rfl rfl (take_ofW HT_.out HW_.out (by kernel_rfl)) (fun _ _ _ h => h) (Or.inl ⟨by rfl, ?_⟩) hHeld ?_ ?_
      rotate_left
      · rintro w' ⟨s0, s1, s2, s3⟩
        go_simp
        with_reducible rfl
      rotate_left
      · simp only [Act.put, List.setIfInBounds_toArray, List.set_cons_zero, List.set_cons_succ, i64_w, i32_w]
        rfl
      refine take_ (i := 5) (N := some 23) (v := ?_) (a' := ?_) #[true, true, true, true, true, true, false, false, false, false] rfl rfl (take_ofW HT_.out HW_.out (by kernel_rfl)) (fun _ _ _ h => h) (Or.inl ⟨by rfl, ?_⟩) hHeld ?_ ?_
      rotate_left
      · rintro w' ⟨s0, s1, s2, s3⟩
        go_simp
        with_reducible rfl
      rotate_left
      · simp only [Act.put, List.setIfInBounds_toArray, List.set_cons_zero, List.set_cons_succ, i64_w, i32_w]
        rfl
      refine one_ (i := 6) (N := some 24) #[true, true, true, true, true, true, true, false, false, false] rfl rfl (one_of HT_.out (by kernel_rfl)) (by decide) (fun K hK => ?_)
      refine goes_ Try.func37 (by kernel_rfl) rfl #[.agg #[.int .i64 ae, .bool af, .string (strOfNums av), .int .i64 an]] (by rfl) rfl rfl (by simp only [List.map_toArray, List.map_cons, List.map_nil]; rfl) ?_
      with_reducible refine (point_RightAns.calls k ae af (strOfNums av) an ok _ HR.out).mono ?_
      rintro ed wx ⟨rfl, hbx⟩
      refine ⟨_, rfl, ?_⟩
      replace HX := Aside0.mk (blk_below (by first | exact HX.out | exact blk_drew HX.out) hbx)
      replace H2 := Aside0.mk (blk_below (by first | exact H2.out | exact blk_drew H2.out) hbx)
      replace HI := Aside0.mk (IsRdr.below (by first | exact HI.out | exact HI.out.drew) hbx)
      replace HK := Aside0.mk (KeepBut.trans (by first | exact HK.out | exact keep_drew HK.out) (KeepBut.of_below hbx g none) (.inl rfl))
      replace HB := Aside0.mk (show Below w0.heap.size w0 wx from by first | exact below_then HB.out HB.out.size hbx | exact below_then (below_drew HB.out) (below_drew HB.out).size hbx)
      clear hbx
      refine hK.out _ _ ⟨(blk_cell HX.out 0), (blk_cell HX.out 1), (blk_cell HX.out 2), (blk_cell HX.out 3)⟩ (fun hHeld => ?_)
      clear hK K
      refine norm_ (a' := ?_) ?_ ?_
      rotate_left
      · show Act.put _ (some 24) _ = _
        simp only [Act.put, List.setIfInBounds_toArray, List.set_cons_zero, List.set_cons_succ, i64_w, i32_w]
        rfl
      refine pure_ (i := 7) (N := some 25) (v := ?_) (a' := ?_) #[true, true, true, true, true, true, true, true, false, false] rfl rfl (any_of HT_.out (by kernel_rfl)) (fun _ _ _ h => h) (Or.inl ⟨by rfl, ?_⟩) ?_ ?_
      rotate_left
      · intro w'
        go_simp
        with_reducible rfl
      rotate_left
      · simp only [Act.put, List.setIfInBounds_toArray, List.set_cons_zero, List.set_cons_succ, i64_w, i32_w]
        rfl
      refine one_ (i := 8) (N := some 26) #[true, true, true, true, true, true, true, true, true, false] rfl rfl (one_of HT_.out (by kernel_rfl)) (by decide) (fun K hK => ?_)
      refine goes_ Try.func53 (by kernel_rfl) rfl #[.pointer (some ⟨g, 0, none⟩), .agg #[.int .i64 ae, .bool af, .string (strOfNums av), .int .i64 an], .bool ok] (by rfl) rfl rfl (by simp only [List.map_toArray, List.map_cons, List.map_nil]; rfl) ?_
      with_reducible refine (point_Ans.calls g l3 e3 ae af (strOfNums av) an ok w0 _ (by first | exact HI.out | exact HI.out.drew) (by first | exact HB.out | exact below_drew HB.out)).mono ?_
      rintro ed wx ⟨rfl, hi, hbx, hk⟩
      refine ⟨_, rfl, ?_⟩
      rw [← HZ.out] at hi ⊢
      rw [if_pos H0.out]
      replace HX := Aside0.mk (hk.blk (by first | exact HX.out | exact blk_drew HX.out) (HI.out.at_ne HX.out (by decide)) (by simp))
      replace H2 := Aside0.mk (hk.blk (by first | exact H2.out | exact blk_drew H2.out) (HI.out.at_ne H2.out (by decide)) (by simp))
      replace HK := Aside0.mk (KeepBut.trans (by first | exact HK.out | exact keep_drew HK.out) hk (.inl rfl))
      replace HI := Aside0.mk hi
      replace HB := Aside0.mk hbx
      clear hi hbx hk
      have s0 := blk_cell H2.out 0
      have f0 := blk_frozen H2.out 0
      have s1 := blk_cell H2.out 1
      have f1 := blk_frozen H2.out 1
      have s2 := blk_cell H2.out 2
      have f2 := blk_frozen H2.out 2
      have s3 := blk_cell H2.out 3
      have f3 := blk_frozen H2.out 3
      have fd0 := blk_frozen (blk_drew H2.out) 0
      refine hK.out _ _ ⟨(blk_cell HX.out 0), (blk_cell HX.out 1), (blk_cell HX.out 2), (blk_cell HX.out 3)⟩ (fun hHeld => ?_)
      clear hK K
      refine norm_ (a' := ?_) ?_ ?_
      rotate_left
      · show Act.put _ (some 26) _ = _
        simp only [Act.put, List.setIfInBounds_toArray, List.set_cons_zero, List.set_cons_succ, i64_w, i32_w]
        rfl
      refine last_ (i := 9) (N := none) #[true, true, true, true, true, true, true, true, true, true] rfl rfl (one_of HT_.out (by kernel_rfl)) (by decide) (fun K hK => ?_)
      refine skip_ (w1 := ?_) (by rfl) rfl ?_ ?_
      rotate_left
      · go_simp
        rfl
      refine hK.out _ _ ?_
      clear hK K
      refine done_ (done_of HT_.out (by kernel_rfl)) ?_
      go_wp2_with fail
      exact bodyPost_ret (results_cell_row rfl _ _ g2 53 #[.int .i64 ae, .bool af, .string (strOfNums av), .int .i64 an] (0, 0) _ rfl (blk_put (blk_put (blk_put (blk_put (H2.out) 0 (.int .i64 ae) rfl) 1 (.bool af) rfl) 2 (.string (strOfNums av)) rfl) 3 (.int .i64 an) rfl) Try.underlying53 rfl rfl) rfl ⟨rfl, HI.out.keep (((((KeepBut.refl _ g2 none).set_ 0 (.int .i64 ae)).set_ 1 (.bool af)).set_ 2 (.string (strOfNums av))).set_ 3 (.int .i64 an)) (HI.out.at_ne H2.out (by decide)) H2.out (by decide), below_set (below_set (below_set (below_set (HB.out) (Nat.le_trans HSZ.out HG2.out)) (Nat.le_trans HSZ.out HG2.out)) (Nat.le_trans HSZ.out HG2.out)) (Nat.le_trans HSZ.out HG2.out), keep_new HK.out (((((KeepBut.refl _ g2 none).set_ 0 (.int .i64 ae)).set_ 1 (.bool af)).set_ 2 (.string (strOfNums av))).set_ 3 (.int .i64 an)) HG2.out⟩
    have hv := HRV.out.trans (if_neg h0)
    subst hv
    have H0 := Aside0.mk h0
    clear h0
    refine start_ (n := 10) (S := fun w' => w'.cell? ⟨g3, 0, none⟩ = some (.int .i64 ae) ∧ w'.cell? ⟨g3, 1, none⟩ = some (.bool af) ∧ w'.cell? ⟨g3, 2, none⟩ = some (.string (strOfNums av)) ∧ w'.cell? ⟨g3, 3, none⟩ = some (.int .i64 an)) (ds := [9]) #[false, false, false, false, false, false, false, false, false, false] (by kernel_rfl) rfl rfl ⟨(blk_cell HX.out 0), (blk_cell HX.out 1), (blk_cell HX.out 2), (blk_cell HX.out 3)⟩ (fun hHeld => ?_)
    refine with_tabW point_TakeAns.tab3 point_TakeAns.bits3 (fun HT_ HW_ => ?_)
    refine pure_ (i := 0) (N := some 18) (v := ?_) (a' := ?_) #[true, false, false, false, false, false, false, false, false, false] rfl rfl (any_of HT_.out (by kernel_rfl)) (fun _ _ _ h => h) (Or.inl ⟨by rfl, ?_⟩) ?_ ?_
    rotate_left
    · intro w'
      go_simp
      with_reducible rfl
    rotate_left
    · simp only [Act.put, List.setIfInBounds_toArray, List.set_cons_zero, List.set_cons_succ, i64_w, i32_w]
      rfl
    refine pure_ (i := 2) (N := some 20) (v := ?_) (a' := ?_) #[true, false, true, false, false, false, false, false, false, false] rfl rfl (any_of HT_.out (by kernel_rfl)) (fun _ _ _ h => h) (Or.inl ⟨by rfl, ?_⟩) ?_ ?_
    rotate_left
    · intro w'
      go_simp
      with_reducible rfl
    rotate_left
    · simp only [Act.put, List.setIfInBounds_toArray, List.set_cons_zero, List.set_cons_succ, i64_w, i32_w]
      rfl
    refine pure_ (i := 3) (N := some 21) (v := ?_) (a' := ?_) #[true, false, true, true, false, false, false, false, false, false] rfl rfl (any_of HT_.out (by kernel_rfl)) (fun _ _ _ h => h) (Or.inl ⟨by rfl, ?_⟩) ?_ ?_
    rotate_left
    · intro w'
      go_simp
      with_reducible rfl
    rotate_left
    · simp only [Act.put, List.setIfInBounds_toArray, List.set_cons_zero, List.set_cons_succ, i64_w, i32_w]
      rfl
    refine pure_ (i := 4) (N := some 22) (v := ?_) (a' := ?_) #[true, false, true, true, true, false, false, false, false, false] rfl rfl (any_of HT_.out (by kernel_rfl)) (fun _ _ _ h => h) (Or.inl ⟨by rfl, ?_⟩) ?_ ?_
    rotate_left
    · intro w'
      go_simp
      with_reducible rfl
    rotate_left
    · simp only [Act.put, List.setIfInBounds_toArray, List.set_cons_zero, List.set_cons_succ, i64_w, i32_w]
      rfl
    refine take_ (i := 1) (N := some 19) (v := ?_) (a' := ?_) #[true, true, true, true, true, false, false, false, false, false] rfl rfl (take_ofW HT_.out HW_.out (by kernel_rfl)) (fun _ _ _ h => h) (Or.inl ⟨by rfl, ?_⟩) hHeld ?_ ?_
    rotate_left
    · rintro w' ⟨s0, s1, s2, s3⟩
      go_simp
      with_reducible rfl
    rotate_left
    · simp only [Act.put, List.setIfInBounds_toArray, List.set_cons_zero, List.set_cons_succ, i64_w, i32_w]
      rfl
    refine take_ (i := 5) (N := some 23) (v := ?_) (a' := ?_) #[true, true, true, true, true, true, false, false, false, false] rfl rfl (take_ofW HT_.out HW_.out (by kernel_rfl)) (fun _ _ _ h => h) (Or.inl ⟨by rfl, ?_⟩) hHeld ?_ ?_
    rotate_left
    · rintro w' ⟨s0, s1, s2, s3⟩
      go_simp
      with_reducible rfl
    rotate_left
    · simp only [Act.put, List.setIfInBounds_toArray, List.set_cons_zero, List.set_cons_succ, i64_w, i32_w]
      rfl
    refine one_ (i := 6) (N := some 24) #[true, true, true, true, true, true, true, false, false, false] rfl rfl (one_of HT_.out (by kernel_rfl)) (by decide) (fun K hK => ?_)
    refine goes_ Try.func37 (by kernel_rfl) rfl #[.agg #[.int .i64 ae, .bool af, .string (strOfNums av), .int .i64 an]] (by rfl) rfl rfl (by simp only [List.map_toArray, List.map_cons, List.map_nil]; rfl) ?_
    with_reducible refine (point_RightAns.calls k ae af (strOfNums av) an ok _ HR.out).mono ?_
    rintro ed wx ⟨rfl, hbx⟩
    refine ⟨_, rfl, ?_⟩
    replace HX := Aside0.mk (blk_below (by first | exact HX.out | exact blk_drew HX.out) hbx)
    replace H2 := Aside0.mk (blk_below (by first | exact H2.out | exact blk_drew H2.out) hbx)
    replace HI := Aside0.mk (IsRdr.below (by first | exact HI.out | exact HI.out.drew) hbx)
    replace HK := Aside0.mk (KeepBut.trans (by first | exact HK.out | exact keep_drew HK.out) (KeepBut.of_below hbx g none) (.inl rfl))
    replace HB := Aside0.mk (show Below w0.heap.size w0 wx from by first | exact below_then HB.out HB.out.size hbx | exact below_then (below_drew HB.out) (below_drew HB.out).size hbx)
    clear hbx
    refine hK.out _ _ ⟨(blk_cell HX.out 0), (blk_cell HX.out 1), (blk_cell HX.out 2), (blk_cell HX.out 3)⟩ (fun hHeld => ?_)
    clear hK K
    refine norm_ (a' := ?_) ?_ ?_
    rotate_left
    · show Act.put _ (some 24) _ = _
      simp only [Act.put, List.setIfInBounds_toArray, List.set_cons_zero, List.set_cons_succ, i64_w, i32_w]
      rfl
    refine pure_ (i := 7) (N := some 25) (v := ?_) (a' := ?_) #[true, true, true, true, true, true, true, true, false, false] rfl rfl (any_of HT_.out (by kernel_rfl)) (fun _ _ _ h => h) (Or.inl ⟨by rfl, ?_⟩) ?_ ?_
    rotate_left
    · intro w'
      go_simp
      with_reducible rfl
    rotate_left
    · simp only [Act.put, List.setIfInBounds_toArray, List.set_cons_zero, List.set_cons_succ, i64_w, i32_w]
      rfl
    refine one_ (i := 8) (N := some 26) #[true, true, true, true, true, true, true, true, true, false] rfl rfl (one_of HT_.out (by kernel_rfl)) (by decide) (fun K hK => ?_)
    refine goes_ Try.func53 (by kernel_rfl) rfl #[.pointer (some ⟨g, 0, none⟩), .agg #[.int .i64 ae, .bool af, .string (strOfNums av), .int .i64 an], .bool ok] (by rfl) rfl rfl (by simp only [List.map_toArray, List.map_cons, List.map_nil]; rfl) ?_
    with_reducible refine (point_Ans.calls g l3 e3 ae af (strOfNums av) an ok w0 _ (by first | exact HI.out | exact HI.out.drew) (by first | exact HB.out | exact below_drew HB.out)).mono ?_
    rintro ed wx ⟨rfl, hi, hbx, hk⟩
    refine ⟨_, rfl, ?_⟩
    rw [← HZ.out] at hi ⊢
    rw [if_neg H0.out]
    replace HX := Aside0.mk (hk.blk (by first | exact HX.out | exact blk_drew HX.out) (HI.out.at_ne HX.out (by decide)) (by simp))
    replace H2 := Aside0.mk (hk.blk (by first | exact H2.out | exact blk_drew H2.out) (HI.out.at_ne H2.out (by decide)) (by simp))
    replace HK := Aside0.mk (KeepBut.trans (by first | exact HK.out | exact keep_drew HK.out) hk (.inl rfl))
    replace HI := Aside0.mk hi
    replace HB := Aside0.mk hbx
    clear hi hbx hk
    have s0 := blk_cell H2.out 0
    have f0 := blk_frozen H2.out 0
    have s1 := blk_cell H2.out 1
    have f1 := blk_frozen H2.out 1
    have s2 := blk_cell H2.out 2
    have f2 := blk_frozen H2.out 2
    have s3 := blk_cell H2.out 3
    have f3 := blk_frozen H2.out 3
    have fd0 := blk_frozen (blk_drew H2.out) 0
    refine hK.out _ _ ⟨(blk_cell HX.out 0), (blk_cell HX.out 1), (blk_cell HX.out 2), (blk_cell HX.out 3)⟩ (fun hHeld => ?_)
    clear hK K
    refine norm_ (a' := ?_) ?_ ?_
    rotate_left
    · show Act.put _ (some 26) _ = _
      simp only [Act.put, List.setIfInBounds_toArray, List.set_cons_zero, List.set_cons_succ, i64_w, i32_w]
      rfl
    refine last_ (i := 9) (N := none) #[true, true, true, true, true, true, true, true, true, true] rfl rfl (one_of HT_.out (by kernel_rfl)) (by decide) (fun K hK => ?_)
    refine skip_ (w1 := ?_) (by rfl) rfl ?_ ?_
    rotate_left
    · go_simp
      rfl
    refine hK.out _ _ ?_
    clear hK K
    refine done_ (done_of HT_.out (by kernel_rfl)) ?_
    go_wp2_with fail
    exact bodyPost_ret (results_cell_row rfl _ _ g2 53 #[.int .i64 0, .bool false, .string ⟨#[]⟩, .int .i64 0] (0, 0) _ rfl (blk_put (blk_put (blk_put (blk_put (H2.out) 0 (.int .i64 0) rfl) 1 (.bool false) rfl) 2 (.string ⟨#[]⟩) rfl) 3 (.int .i64 0) rfl) Try.underlying53 rfl rfl) rfl ⟨rfl, HI.out.keep (((((KeepBut.refl _ g2 none).set_ 0 (.int .i64 0)).set_ 1 (.bool false)).set_ 2 (.string ⟨#[]⟩)).set_ 3 (.int .i64 0)) (HI.out.at_ne H2.out (by decide)) H2.out (by decide), below_set (below_set (below_set (below_set (HB.out) (Nat.le_trans HSZ.out HG2.out)) (Nat.le_trans HSZ.out HG2.out)) (Nat.le_trans HSZ.out HG2.out)) (Nat.le_trans HSZ.out HG2.out), keep_new HK.out (((((KeepBut.refl _ g2 none).set_ 0 (.int .i64 0)).set_ 1 (.bool false)).set_ 2 (.string ⟨#[]⟩)).set_ 3 (.int .i64 0)) HG2.out⟩
  have hfb : decide (fo ≤ 1) = false := decide_eq_false hf
  have hokr : ok = false := by have := HOK.out; rw [hfb] at this; simpa using this
  subst hokr
  by_cases h0 : z = 0
  focus
    have hv := HRV.out.trans (if_pos h0)
    subst hv
    have H0 := Aside0.mk h0
    clear h0
    refine start_ (n := 10) (S := fun w' => w'.cell? ⟨g3, 0, none⟩ = some (.int .i64 ae) ∧ w'.cell? ⟨g3, 1, none⟩ = some (.bool af) ∧ w'.cell? ⟨g3, 2, none⟩ = some (.string (strOfNums av)) ∧ w'.cell? ⟨g3, 3, none⟩ = some (.int .i64 an)) (ds := [9]) #[false, false, false, false, false, false, false, false, false, false] (by kernel_rfl) rfl rfl ⟨(blk_cell HX.out 0), (blk_cell HX.out 1), (blk_cell HX.out 2), (blk_cell HX.out 3)⟩ (fun hHeld => ?_)
    refine with_tabW point_TakeAns.tab3 point_TakeAns.bits3 (fun HT_ HW_ => ?_)
    refine pure_ (i := 0) (N := some 18) (v := ?_) (a' := ?_) #[true, false, false, false, false, false, false, false, false, false] rfl rfl (any_of HT_.out (by kernel_rfl)) (fun _ _ _ h => h) (Or.inl ⟨by rfl, ?_⟩) ?_ ?_
    rotate_left
    · intro w'
      go_simp
      with_reducible rfl
    rotate_left
    · simp only [Act.put, List.setIfInBounds_toArray, List.set_cons_zero, List.set_cons_succ, i64_w, i32_w]
      rfl
    refine pure_ (i := 2) (N := some 20) (v := ?_) (a' := ?_) #[true, false, true, false, false, false, false, false, false, false] rfl rfl (any_of HT_.out (by kernel_rfl)) (fun _ _ _ h => h) (Or.inl ⟨by rfl, ?_⟩) ?_ ?_
    rotate_left
    · intro w'
      go_simp
      with_reducible rfl
    rotate_left
    · simp only [Act.put, List.setIfInBounds_toArray, List.set_cons_zero, List.set_cons_succ, i64_w, i32_w]
      rfl
    refine pure_ (i := 3) (N := some 21) (v := ?_) (a' := ?_) #[true, false, true, true, false, false, false, false, false, false] rfl rfl (any_of HT_.out (by kernel_rfl)) (fun _ _ _ h => h) (Or.inl ⟨by rfl, ?_⟩) ?_ ?_
    rotate_left
    · intro w'
      go_simp
      with_reducible rfl
    rotate_left
    · simp only [Act.put, List.setIfInBounds_toArray, List.set_cons_zero, List.set_cons_succ, i64_w, i32_w]
      rfl
    refine pure_ (i := 4) (N := some 22) (v := ?_) (a' := ?_) #[true, false, true, true, true, false, false, false, false, false] rfl rfl (any_of HT_.out (by kernel_rfl)) (fun _ _ _ h => h) (Or.inl ⟨by rfl, ?_⟩) ?_ ?_
    rotate_left
    · intro w'
      go_simp
      with_reducible rfl
    rotate_left
    · simp only [Act.put, List.setIfInBounds_toArray, List.set_cons_zero, List.set_cons_succ, i64_w, i32_w]
      rfl
    refine pure_ (i := 5) (N := some 23) (v := undef) (a' := ?_) #[true, false, true, true, true, true, false, false, false, false] rfl rfl (any_of HT_.out (by kernel_rfl)) (fun _ _ _ h => h) (Or.inr ⟨by rfl, rfl⟩) ?_ ?_
    rotate_left
    · simp only [Act.put, List.setIfInBounds_toArray, List.set_cons_zero, List.set_cons_succ, i64_w, i32_w]
      rfl
    refine pure_ (i := 6) (N := some 24) (v := undef) (a' := ?_) #[true, false, true, true, true, true, true, false, false, false] rfl rfl (any_of HT_.out (by kernel_rfl)) (fun _ _ _ h => h) (Or.inr ⟨by rfl, rfl⟩) ?_ ?_
    rotate_left
    · simp only [Act.put, List.setIfInBounds_toArray, List.set_cons_zero, List.set_cons_succ, i64_w, i32_w]
      rfl
    refine pure_ (i := 7) (N := some 25) (v := ?_) (a' := ?_) #[true, false, true, true, true, true, true, true, false, false] rfl rfl (any_of HT_.out (by kernel_rfl)) (fun _ _ _ h => h) (Or.inl ⟨by rfl, ?_⟩) ?_ ?_
    rotate_left
    · intro w'
      go_simp
      with_reducible rfl
    rotate_left
    · simp only [Act.put, List.setIfInBounds_toArray, List.set_cons_zero, List.set_cons_succ, i64_w, i32_w]
      rfl
    refine take_ (i := 1) (N := some 19) (v := ?_) (a' := ?_) #[true, true, true, true, true, true, true, true, false, false] rfl rfl (take_ofW HT_.out HW_.out (by kernel_rfl)) (fun _ _ _ h => h) (Or.inl ⟨by rfl, ?_⟩) hHeld ?_ ?_
    rotate_left
    · rintro w' ⟨s0, s1, s2, s3⟩
      go_simp
      with_reducible rfl
    rotate_left
    · simp only [Act.put, List.setIfInBounds_toArray, List.set_cons_zero, List.set_cons_succ, i64_w, i32_w]
      rfl
    refine one_ (i := 8) (N := some 26) #[true, true, true, true, true, true, true, true, true, false] rfl rfl (one_of HT_.out (by kernel_rfl)) (by decide) (fun K hK => ?_)
    refine goes_ Try.func53 (by kernel_rfl) rfl #[.pointer (some ⟨g, 0, none⟩), .agg #[.int .i64 ae, .bool af, .string (strOfNums av), .int .i64 an], .bool false] (by rfl) rfl rfl (by simp only [List.map_toArray, List.map_cons, List.map_nil]; rfl) ?_
    with_reducible refine (point_Ans.calls g l3 e3 ae af (strOfNums av) an false w0 _ (by first | exact HI.out | exact HI.out.drew) (by first | exact HB.out | exact below_drew HB.out)).mono ?_
    rintro ed wx ⟨rfl, hi, hbx, hk⟩
    refine ⟨_, rfl, ?_⟩
    rw [← HZ.out] at hi ⊢
    rw [if_pos H0.out]
    replace HX := Aside0.mk (hk.blk (by first | exact HX.out | exact blk_drew HX.out) (HI.out.at_ne HX.out (by decide)) (by simp))
    replace H2 := Aside0.mk (hk.blk (by first | exact H2.out | exact blk_drew H2.out) (HI.out.at_ne H2.out (by decide)) (by simp))
    replace HK := Aside0.mk (KeepBut.trans (by first | exact HK.out | exact keep_drew HK.out) hk (.inl rfl))
    replace HI := Aside0.mk hi
    replace HB := Aside0.mk hbx
    clear hi hbx hk
    have s0 := blk_cell H2.out 0
    have f0 := blk_frozen H2.out 0
    have s1 := blk_cell H2.out 1
    have f1 := blk_frozen H2.out 1
    have s2 := blk_cell H2.out 2
    have f2 := blk_frozen H2.out 2
    have s3 := blk_cell H2.out 3
    have f3 := blk_frozen H2.out 3
    have fd0 := blk_frozen (blk_drew H2.out) 0
    refine hK.out _ _ ⟨(blk_cell HX.out 0), (blk_cell HX.out 1), (blk_cell HX.out 2), (blk_cell HX.out 3)⟩ (fun hHeld => ?_)
    clear hK K
    refine norm_ (a' := ?_) ?_ ?_
    rotate_left
    · show Act.put _ (some 26) _ = _
      simp only [Act.put, List.setIfInBounds_toArray, List.set_cons_zero, List.set_cons_succ, i64_w, i32_w]
      rfl
    refine last_ (i := 9) (N := none) #[true, true, true, true, true, true, true, true, true, true] rfl rfl (one_of HT_.out (by kernel_rfl)) (by decide) (fun K hK => ?_)
    refine skip_ (w1 := ?_) (by rfl) rfl ?_ ?_
    rotate_left
    · go_simp
      rfl
    refine hK.out _ _ ?_
    clear hK K
    refine done_ (done_of HT_.out (by kernel_rfl)) ?_
    go_wp2_with fail
    exact bodyPost_ret (results_cell_row rfl _ _ g2 53 #[.int .i64 ae, .bool af, .string (strOfNums av), .int .i64 an] (0, 0) _ rfl (blk_put (blk_put (blk_put (blk_put (H2.out) 0 (.int .i64 ae) rfl) 1 (.bool af) rfl) 2 (.string (strOfNums av)) rfl) 3 (.int .i64 an) rfl) Try.underlying53 rfl rfl) rfl ⟨rfl, HI.out.keep (((((KeepBut.refl _ g2 none).set_ 0 (.int .i64 ae)).set_ 1 (.bool af)).set_ 2 (.string (strOfNums av))).set_ 3 (.int .i64 an)) (HI.out.at_ne H2.out (by decide)) H2.out (by decide), below_set (below_set (below_set (below_set (HB.out) (Nat.le_trans HSZ.out HG2.out)) (Nat.le_trans HSZ.out HG2.out)) (Nat.le_trans HSZ.out HG2.out)) (Nat.le_trans HSZ.out HG2.out), keep_new HK.out (((((KeepBut.refl _ g2 none).set_ 0 (.int .i64 ae)).set_ 1 (.bool af)).set_ 2 (.string (strOfNums av))).set_ 3 (.int .i64 an)) HG2.out⟩
  have hv := HRV.out.trans (if_neg h0)
  subst hv
  have H0 := Aside0.mk h0
  clear h0
  refine start_ (n := 10) (S := fun w' => w'.cell? ⟨g3, 0, none⟩ = some (.int .i64 ae) ∧ w'.cell? ⟨g3, 1, none⟩ = some (.bool af) ∧ w'.cell? ⟨g3, 2, none⟩ = some (.string (strOfNums av)) ∧ w'.cell? ⟨g3, 3, none⟩ = some (.int .i64 an)) (ds := [9]) #[false, false, false, false, false, false, false, false, false, false] (by kernel_rfl) rfl rfl ⟨(blk_cell HX.out 0), (blk_cell HX.out 1), (blk_cell HX.out 2), (blk_cell HX.out 3)⟩ (fun hHeld => ?_)
  refine with_tabW point_TakeAns.tab3 point_TakeAns.bits3 (fun HT_ HW_ => ?_)
  refine pure_ (i := 0) (N := some 18) (v := ?_) (a' := ?_) #[true, false, false, false, false, false, false, false, false, false] rfl rfl (any_of HT_.out (by kernel_rfl)) (fun _ _ _ h => h) (Or.inl ⟨by rfl, ?_⟩) ?_ ?_
  rotate_left
  · intro w'
    go_simp
    with_reducible rfl
  rotate_left
  · simp only [Act.put, List.setIfInBounds_toArray, List.set_cons_zero, List.set_cons_succ, i64_w, i32_w]
    rfl
  refine pure_ (i := 2) (N := some 20) (v := ?_) (a' := ?_) #[true, false, true, false, false, false, false, false, false, false] rfl rfl (any_of HT_.out (by kernel_rfl)) (fun _ _ _ h => h) (Or.inl ⟨by rfl, ?_⟩) ?_ ?_
  rotate_left
  · intro w'
    go_simp
    with_reducible rfl
  rotate_left
  · simp only [Act.put, List.setIfInBounds_toArray, List.set_cons_zero, List.set_cons_succ, i64_w, i32_w]
    rfl
  refine pure_ (i := 3) (N := some 21) (v := ?_) (a' := ?_) #[true, false, true, true, false, false, false, false, false, false] rfl rfl (any_of HT_.out (by kernel_rfl)) (fun _ _ _ h => h) (Or.inl ⟨by rfl, ?_⟩) ?_ ?_
  rotate_left
  · intro w'
    go_simp
    with_reducible rfl
  rotate_left
  · simp only [Act.put, List.setIfInBounds_toArray, List.set_cons_zero, List.set_cons_succ, i64_w, i32_w]
    rfl
  refine pure_ (i := 4) (N := some 22) (v := ?_) (a' := ?_) #[true, false, true, true, true, false, false, false, false, false] rfl rfl (any_of HT_.out (by kernel_rfl)) (fun _ _ _ h => h) (Or.inl ⟨by rfl, ?_⟩) ?_ ?_
  rotate_left
  · intro w'
    go_simp
    with_reducible rfl
  rotate_left
  · simp only [Act.put, List.setIfInBounds_toArray, List.set_cons_zero, List.set_cons_succ, i64_w, i32_w]
    rfl
  refine pure_ (i := 5) (N := some 23) (v := undef) (a' := ?_) #[true, false, true, true, true, true, false, false, false, false] rfl rfl (any_of HT_.out (by kernel_rfl)) (fun _ _ _ h => h) (Or.inr ⟨by rfl, rfl⟩) ?_ ?_
  rotate_left
  · simp only [Act.put, List.setIfInBounds_toArray, List.set_cons_zero, List.set_cons_succ, i64_w, i32_w]
    rfl
  refine pure_ (i := 6) (N := some 24) (v := undef) (a' := ?_) #[true, false, true, true, true, true, true, false, false, false] rfl rfl (any_of HT_.out (by kernel_rfl)) (fun _ _ _ h => h) (Or.inr ⟨by rfl, rfl⟩) ?_ ?_
  rotate_left
  · simp only [Act.put, List.setIfInBounds_toArray, List.set_cons_zero, List.set_cons_succ, i64_w, i32_w]
    rfl
  refine pure_ (i := 7) (N := some 25) (v := ?_) (a' := ?_) #[true, false, true, true, true, true, true, true, false, false] rfl rfl (any_of HT_.out (by kernel_rfl)) (fun _ _ _ h => h) (Or.inl ⟨by rfl, ?_⟩) ?_ ?_
  rotate_left
  · intro w'
    go_simp
    with_reducible rfl
  rotate_left
  · simp only [Act.put, List.setIfInBounds_toArray, List.set_cons_zero, List.set_cons_succ, i64_w, i32_w]
    rfl
  refine take_ (i := 1) (N := some 19) (v := ?_) (a' := ?_) #[true, true, true, true, true, true, true, true, false, false] rfl rfl (take_ofW HT_.out HW_.out (by kernel_rfl)) (fun _ _ _ h => h) (Or.inl ⟨by rfl, ?_⟩) hHeld ?_ ?_
  rotate_left
  · rintro w' ⟨s0, s1, s2, s3⟩
    go_simp
    with_reducible rfl
  rotate_left
  · simp only [Act.put, List.setIfInBounds_toArray, List.set_cons_zero, List.set_cons_succ, i64_w, i32_w]
    rfl
  refine one_ (i := 8) (N := some 26) #[true, true, true, true, true, true, true, true, true, false] rfl rfl (one_of HT_.out (by kernel_rfl)) (by decide) (fun K hK => ?_)
  refine goes_ Try.func53 (by kernel_rfl) rfl #[.pointer (some ⟨g, 0, none⟩), .agg #[.int .i64 ae, .bool af, .string (strOfNums av), .int .i64 an], .bool false] (by rfl) rfl rfl (by simp only [List.map_toArray, List.map_cons, List.map_nil]; rfl) ?_
  with_reducible refine (point_Ans.calls g l3 e3 ae af (strOfNums av) an false w0 _ (by first | exact HI.out | exact HI.out.drew) (by first | exact HB.out | exact below_drew HB.out)).mono ?_
  rintro ed wx ⟨rfl, hi, hbx, hk⟩
  refine ⟨_, rfl, ?_⟩
  rw [← HZ.out] at hi ⊢
  rw [if_neg H0.out]
  replace HX := Aside0.mk (hk.blk (by first | exact HX.out | exact blk_drew HX.out) (HI.out.at_ne HX.out (by decide)) (by simp))
  replace H2 := Aside0.mk (hk.blk (by first | exact H2.out | exact blk_drew H2.out) (HI.out.at_ne H2.out (by decide)) (by simp))
  replace HK := Aside0.mk (KeepBut.trans (by first | exact HK.out | exact keep_drew HK.out) hk (.inl rfl))
  replace HI := Aside0.mk hi
  replace HB := Aside0.mk hbx
  clear hi hbx hk
  have s0 := blk_cell H2.out 0
  have f0 := blk_frozen H2.out 0
  have s1 := blk_cell H2.out 1
  have f1 := blk_frozen H2.out 1
  have s2 := blk_cell H2.out 2
  have f2 := blk_frozen H2.out 2
  have s3 := blk_cell H2.out 3
  have f3 := blk_frozen H2.out 3
  have fd0 := blk_frozen (blk_drew H2.out) 0
  refine hK.out _ _ ⟨(blk_cell HX.out 0), (blk_cell HX.out 1), (blk_cell HX.out 2), (blk_cell HX.out 3)⟩ (fun hHeld => ?_)
  clear hK K
  refine norm_ (a' := ?_) ?_ ?_
  rotate_left
  · show Act.put _ (some 26) _ = _
    simp only [Act.put, List.setIfInBounds_toArray, List.set_cons_zero, List.set_cons_succ, i64_w, i32_w]
    rfl
  refine last_ (i := 9) (N := none) #[true, true, true, true, true, true, true, true, true, true] rfl rfl (one_of HT_.out (by kernel_rfl)) (by decide) (fun K hK => ?_)
  refine skip_ (w1 := ?_) (by rfl) rfl ?_ ?_
  rotate_left
  · go_simp
    rfl
  refine hK.out _ _ ?_
  clear hK K
  refine done_ (done_of HT_.out (by kernel_rfl)) ?_
  go_wp2_with fail
  exact bodyPost_ret (results_cell_row rfl _ _ g2 53 #[.int .i64 0, .bool false, .string ⟨#[]⟩, .int .i64 0] (0, 0) _ rfl (blk_put (blk_put (blk_put (blk_put (H2.out) 0 (.int .i64 0) rfl) 1 (.bool false) rfl) 2 (.string ⟨#[]⟩) rfl) 3 (.int .i64 0) rfl) Try.underlying53 rfl rfl) rfl ⟨rfl, HI.out.keep (((((KeepBut.refl _ g2 none).set_ 0 (.int .i64 0)).set_ 1 (.bool false)).set_ 2 (.string ⟨#[]⟩)).set_ 3 (.int .i64 0)) (HI.out.at_ne H2.out (by decide)) H2.out (by decide), below_set (below_set (below_set (below_set (HB.out) (Nat.le_trans HSZ.out HG2.out)) (Nat.le_trans HSZ.out HG2.out)) (Nat.le_trans HSZ.out HG2.out)) (Nat.le_trans HSZ.out HG2.out), keep_new HK.out (((((KeepBut.refl _ g2 none).set_ 0 (.int .i64 0)).set_ 1 (.bool false)).set_ 2 (.string ⟨#[]⟩)).set_ 3 (.int .i64 0)) HG2.out⟩

end
end Go.Proofs.Ytiglmgmkablpkaa.PK
