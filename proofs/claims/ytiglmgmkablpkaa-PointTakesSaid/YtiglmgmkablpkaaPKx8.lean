-- Written by a program of this session (wip/tools/hp.py) over the kit's print; nothing here is trusted: Lean checks it.
import Derived.Test.YtiglmgmkablpkaaPKx0
import Derived.Test.YtiglmgmkablpkaaPKx4
import Derived.Test.YtiglmgmkablpkaaPKx6
import Derived.RegionTactic
import Derived.BigRegion
import Derived.Test.YtiglmgmkablpkaaPKx2
import Derived.Test.YtiglmgmkablpkaaPKx7
namespace Go.Proofs.Ytiglmgmkablpkaa.PK
open Go.RowKit Go.Proofs.YtiglmgmkablpkaaW.PrintWords Go.Proofs.YtiglmgmkablpkaaW.PrintLast Go.Proofs.YtiglmgmkablpkaaW.PrintMore
attribute [local go_sem] max2_int min2_int max_two min_two max_three min_three max_four min_four   -- for this text's walks alone
set_option linter.unusedVariables false
set_option linter.unusedSimpArgs false

/-! ### gleberef07_TakeAns: function 23 -/
def gleberef07_TakeAns.j0 : Nat → Bool → List Int → Int → Int → Int → Bool → ByteArray → Int → Option (Int × Bool × ByteArray × Int × Int × Int)
 | 0, _, _, _, _, _, _, _, _ => none
 | k + 1, x25, x1000, x1001, x1002, x424000, x424001, x424002, x424003 => if x25 = true then ((gleberef01_Reader_Fail.f x1000 x1001 x1002 21).bind fun bt434 => (if bt434.2 = 0 then (some (x424000, x424001, x424002, x424003, bt434.1, bt434.2)) else (some (0, false, (⟨#[]⟩ : ByteArray), 0, bt434.1, bt434.2)))) else (if x1002 = 0 then (some (x424000, x424001, x424002, x424003, x1001, x1002)) else (some (0, false, (⟨#[]⟩ : ByteArray), 0, x1001, x1002)))
def gleberef07_TakeAns.f (k : Nat) (s0_0 : List Int) (s0_1 : Int) (s0_2 : Int) : Option (Int × Bool × ByteArray × Int × Int × Int) := (gleberef01_Reader_Num.f k s0_0 s0_1 s0_2).bind fun bt420 => ((gleberef01_Reader_Num.f k s0_0 bt420.2.1 bt420.2.2).bind fun bt424 => ((gleberef01_Reader_Text.f k s0_0 bt424.2.1 bt424.2.2 32).bind fun bt427 => ((gleberef01_Reader_Num.f k s0_0 bt427.2.1 bt427.2.2).bind fun bt430 => ((gleberef07_RightAns.f bt420.1 (bt424.1 == 1) bt427.1 bt430.1).bind fun t433 => (if t433 = true then (gleberef07_TakeAns.j0 k (decide (bt424.1 > 1)) s0_0 bt430.2.1 bt430.2.2 bt420.1 (bt424.1 == 1) bt427.1 bt430.1) else (gleberef07_TakeAns.j0 k true s0_0 bt430.2.1 bt430.2.2 bt420.1 (bt424.1 == 1) bt427.1 bt430.1))))))
theorem gleberef07_TakeAns.mono_l : ∀ k, (∀ y0 y1 y2 y3 y4 y5 y6 y7, LeO (gleberef07_TakeAns.j0 k y0 y1 y2 y3 y4 y5 y6 y7) (gleberef07_TakeAns.j0 (k + 1) y0 y1 y2 y3 y4 y5 y6 y7))
 | 0 => fun _ _ _ _ _ _ _ _ r h => by simp [gleberef07_TakeAns.j0] at h
 | k + 1 => by
  have ih0 := gleberef07_TakeAns.mono_l k
  ·intro y0 y1 y2 y3 y4 y5 y6 y7
   unfold gleberef07_TakeAns.j0
   repeat' first
   | (with_reducible exact ih0 _ _ _ _ _ _ _ _)
   | (with_reducible exact gleberef01_Reader_Num.mono _ _ _ _)
   | (with_reducible exact gleberef01_Reader_Text.mono _ _ _ _ _)
   | (with_reducible exact LeO.refl _)
   | (with_reducible exact LeO.none _)
   | (with_reducible refine LeO.ite ?_ ?_)
   | (with_reducible refine LeO.bind ?_ (fun _ => ?_))
   | exact ih0 _ _ _ _ _ _ _ _
   | exact gleberef01_Reader_Num.mono _ _ _ _
   | exact gleberef01_Reader_Text.mono _ _ _ _ _
   | exact LeO.none _
   | refine LeO.ite ?_ ?_
   | refine LeO.bind ?_ (fun _ => ?_)
theorem gleberef07_TakeAns.mono : ∀ a0 a1 a2 k, LeO (gleberef07_TakeAns.f k a0 a1 a2) (gleberef07_TakeAns.f (k + 1) a0 a1 a2) := by
 intro a0 a1 a2 k
 have ih0 := gleberef07_TakeAns.mono_l k
 unfold gleberef07_TakeAns.f
 repeat' first
   | (with_reducible exact ih0 _ _ _ _ _ _ _ _)
   | (with_reducible exact gleberef01_Reader_Num.mono _ _ _ _)
   | (with_reducible exact gleberef01_Reader_Text.mono _ _ _ _ _)
   | (with_reducible exact LeO.refl _)
   | (with_reducible exact LeO.none _)
   | (with_reducible refine LeO.ite ?_ ?_)
   | (with_reducible refine LeO.bind ?_ (fun _ => ?_))
   | exact ih0 _ _ _ _ _ _ _ _
   | exact gleberef01_Reader_Num.mono _ _ _ _
   | exact gleberef01_Reader_Text.mono _ _ _ _ _
   | exact LeO.none _
   | refine LeO.ite ?_ ?_
   | refine LeO.bind ?_ (fun _ => ?_)
set_option maxHeartbeats 8000000 in
set_option maxRecDepth 100000 in
theorem gleberef07_TakeAns.calls (k : Nat) (g : Nat) (s0_0 : List Int) (s0_1 : Int) (s0_2 : Int) (r1 : Int) (r2 : Bool) (r3 : ByteArray) (r4 : Int) (r5 : Int) (r6 : Int) (w0 w : World) (hI : IsS41 w0 w g s0_0 s0_1 s0_2) (hB : Below w0.heap.size w0 w) (h : gleberef07_TakeAns.f k s0_0 s0_1 s0_2 = some (r1, r2, r3, r4, r5, r6)) :
  Calls Try.prog 23 #[.pointer (some ⟨g, 0, none⟩)] w fun e w' => e = .returned (.agg #[.int .i64 r1, .bool r2, .string r3, .int .i64 r4]) ∧ IsS41 w0 w' g s0_0 r5 r6 ∧ Below w0.heap.size w0 w' ∧ KeepBut w w' g none := by
 have hu50 := Try.underlying50
 have HI0 := Aside0.mk hI
 have HK := Aside0.mk (KeepBut.refl w g none)
 have HL := Aside0.mk hB.size
 clear hI
 have HW0 := Aside0.mk hB.size
 have HB := Aside0.mk hB
 clear hB
 have H : ((gleberef01_Reader_Num.f k s0_0 s0_1 s0_2).bind fun bt420 => ((gleberef01_Reader_Num.f k s0_0 bt420.2.1 bt420.2.2).bind fun bt424 => ((gleberef01_Reader_Text.f k s0_0 bt424.2.1 bt424.2.2 32).bind fun bt427 => ((gleberef01_Reader_Num.f k s0_0 bt427.2.1 bt427.2.2).bind fun bt430 => ((gleberef07_RightAns.f bt420.1 (bt424.1 == 1) bt427.1 bt430.1).bind fun t433 => (if t433 = true then (gleberef07_TakeAns.j0 k (decide (bt424.1 > 1)) s0_0 bt430.2.1 bt430.2.2 bt420.1 (bt424.1 == 1) bt427.1 bt430.1) else (gleberef07_TakeAns.j0 k true s0_0 bt430.2.1 bt430.2.2 bt420.1 (bt424.1 == 1) bt427.1 bt430.1))))))) = some (r1, r2, r3, r4, r5, r6) := h
 clear h
 replace H := Option.bind_eq_some_iff.mp H
 obtain ⟨⟨t420, t421, t422⟩, A20, H⟩ := H
 replace H : ((gleberef01_Reader_Num.f k s0_0 t421 t422).bind fun bt424 => ((gleberef01_Reader_Text.f k s0_0 bt424.2.1 bt424.2.2 32).bind fun bt427 => ((gleberef01_Reader_Num.f k s0_0 bt427.2.1 bt427.2.2).bind fun bt430 => ((gleberef07_RightAns.f t420 (bt424.1 == 1) bt427.1 bt430.1).bind fun t433 => (if t433 = true then (gleberef07_TakeAns.j0 k (decide (bt424.1 > 1)) s0_0 bt430.2.1 bt430.2.2 t420 (bt424.1 == 1) bt427.1 bt430.1) else (gleberef07_TakeAns.j0 k true s0_0 bt430.2.1 bt430.2.2 t420 (bt424.1 == 1) bt427.1 bt430.1)))))) = some (r1, r2, r3, r4, r5, r6) := H
 have A2 := Aside0.mk A20
 clear A20
 replace H := Option.bind_eq_some_iff.mp H
 obtain ⟨⟨t424, t425, t426⟩, A30, H⟩ := H
 replace H : ((gleberef01_Reader_Text.f k s0_0 t425 t426 32).bind fun bt427 => ((gleberef01_Reader_Num.f k s0_0 bt427.2.1 bt427.2.2).bind fun bt430 => ((gleberef07_RightAns.f t420 (t424 == 1) bt427.1 bt430.1).bind fun t433 => (if t433 = true then (gleberef07_TakeAns.j0 k (decide (t424 > 1)) s0_0 bt430.2.1 bt430.2.2 t420 (t424 == 1) bt427.1 bt430.1) else (gleberef07_TakeAns.j0 k true s0_0 bt430.2.1 bt430.2.2 t420 (t424 == 1) bt427.1 bt430.1))))) = some (r1, r2, r3, r4, r5, r6) := H
 have A3 := Aside0.mk A30
 clear A30
 replace H := Option.bind_eq_some_iff.mp H
 obtain ⟨⟨t427, t428, t429⟩, A40, H⟩ := H
 replace H : ((gleberef01_Reader_Num.f k s0_0 t428 t429).bind fun bt430 => ((gleberef07_RightAns.f t420 (t424 == 1) t427 bt430.1).bind fun t433 => (if t433 = true then (gleberef07_TakeAns.j0 k (decide (t424 > 1)) s0_0 bt430.2.1 bt430.2.2 t420 (t424 == 1) t427 bt430.1) else (gleberef07_TakeAns.j0 k true s0_0 bt430.2.1 bt430.2.2 t420 (t424 == 1) t427 bt430.1)))) = some (r1, r2, r3, r4, r5, r6) := H
 have A4 := Aside0.mk A40
 clear A40
 replace H := Option.bind_eq_some_iff.mp H
 obtain ⟨⟨t430, t431, t432⟩, A50, H⟩ := H
 replace H : ((gleberef07_RightAns.f t420 (t424 == 1) t427 t430).bind fun t433 => (if t433 = true then (gleberef07_TakeAns.j0 k (decide (t424 > 1)) s0_0 t431 t432 t420 (t424 == 1) t427 t430) else (gleberef07_TakeAns.j0 k true s0_0 t431 t432 t420 (t424 == 1) t427 t430))) = some (r1, r2, r3, r4, r5, r6) := H
 have A5 := Aside0.mk A50
 clear A50
 have HC6 := Aside0.mk H
 clear H
 go_enter Try.func23, Try.ntmps23
 go_upto_region 6 with (first | ((with_reducible refine gate_dst (N := 2) rfl ?_); refine box_event ?hg (N := 2) ?hd (cs := #[.int .i64 0, .bool false, .string (⟨#[]⟩ : ByteArray), .int .i64 0]) (t := 50) ?hr ?_; (case hd => rfl); (case hg => rfl); (case hr => first | (go_simp; done) | (go_simp; rfl)); intro gb419 hg w7 hbox hb; have n0_ := Aside0.mk (IsS41.below (by repeat (first | (with_reducible first | exact HI0.out | apply IsS41.alloc | apply IsS41.drewN | apply IsS41.drew | apply IsS41.set_1 | apply IsS41.set_2) | exact HI0.out)) hb); have n1_ := Aside0.mk (KeepBut.trans (by repeat (first | (with_reducible first | exact HK.out | apply KeepBut.set_ | apply keep_drewN | apply keep_drew | apply keep_alloc) | exact HK.out)) (KeepBut.of_below hb g none) (.inl rfl)); have n2_ := Aside0.mk (below_step (by repeat (first | (with_reducible first | exact HB.out | apply below_alloc | apply pw_below_drewN | apply below_drew1 | refine below_set ?_ (IsS41.ge HI0.out)) | exact HB.out)) hb); have n3_ := Aside0.mk (hbox); have n4_ := Aside0.mk ((by rw [hg]; exact (keep_size (w := w) (g := g) (row := none) (by repeat (first | (with_reducible first | exact HK.out | apply KeepBut.set_ | apply keep_drewN | apply keep_drew | apply keep_alloc) | exact HK.out))) : w.heap.size ≤ gb419)); have n5_ := Aside0.mk ((Nat.le_trans HW0.out (by rw [hg]; exact (keep_size (w := w) (g := g) (row := none) (by repeat (first | (with_reducible first | exact HK.out | apply KeepBut.set_ | apply keep_drewN | apply keep_drew | apply keep_alloc) | exact HK.out))) : w.heap.size ≤ gb419) : w0.heap.size ≤ gb419)); have n6_ := Aside0.mk ((by rw [hg]; exact Nat.ne_of_lt (IsS41.lt (show IsS41 w0 _ g s0_0 s0_1 s0_2 from by repeat (first | (with_reducible first | exact HI0.out | apply IsS41.alloc | apply IsS41.drewN | apply IsS41.drew | apply IsS41.set_1 | apply IsS41.set_2) | exact HI0.out))) : g ≠ gb419)); have n7_ := Aside0.mk ((by rw [hg]; exact Nat.ne_of_gt (IsS41.lt (show IsS41 w0 _ g s0_0 s0_1 s0_2 from by repeat (first | (with_reducible first | exact HI0.out | apply IsS41.alloc | apply IsS41.drewN | apply IsS41.drew | apply IsS41.set_1 | apply IsS41.set_2) | exact HI0.out))) : gb419 ≠ g)); clear HI0; clear HK; clear HB; have HI0 := n0_; have HK := n1_; have HB := n2_; have BK419 := n3_; have GW419 := n4_; have GE419 := n5_; have NB0_419 := n6_; have NB419_0 := n7_; clear n0_ n1_ n2_ n3_ n4_ n5_ n6_ n7_; clear hb hbox hg) | ((with_reducible refine gate_callee (f := 48) rfl ?_); refine goesL_ (some 6) rfl rfl Try.func48 (by kernel_rfl) rfl #[.pointer (some ⟨g, 0, none⟩)] rfl (by (try simp only [List.map_toArray, List.map_cons, List.map_nil]); first | done | rfl | (simp only [List.length_drop, List.length_take]; rfl)) ?_; (with_reducible refine (gleberef01_Reader_Num.calls k g s0_0 s0_1 s0_2 t420 t421 t422 w0 _ ?side1 ?side2 A2.out).mono ?_); (case side1 => repeat (first | (with_reducible first | exact HI0.out | apply IsS41.alloc | apply IsS41.drewN | apply IsS41.drew | apply IsS41.set_1 | apply IsS41.set_2 | refine IsS41.far ?_ NB0_419.out _) | exact HI0.out)); (case side2 => repeat (first | (with_reducible first | exact HB.out | apply below_alloc | apply pw_below_drewN | apply below_drew1 | refine below_set ?_ (IsS41.ge HI0.out) | refine below_set ?_ GE419.out) | exact HB.out)); rintro e w8 ⟨rfl, hi, hb, hk⟩; refine ⟨_, rfl, ?_⟩; have n0_ := Aside0.mk (KeepBut.blk hk (g' := gb419) (o := .cells #[.int .i64 0, .bool false, .string (⟨#[]⟩ : ByteArray), .int .i64 0] 50 (0, 0)) (by (with_reducible repeat (first | refine blk_drewN ?_ _ | refine blk_drew ?_ | refine blk_alloc ?_ _)); exact BK419.out) NB419_0.out (by simp)); have n1_ := Aside0.mk (KeepBut.trans (by repeat (first | (with_reducible first | exact HK.out | apply KeepBut.set_ | apply keep_drewN | apply keep_drew | apply keep_alloc | refine keep_far ?_ GW419.out _) | exact HK.out)) hk (.inl rfl)); have n2_ := Aside0.mk (hb); have n3_ := Aside0.mk (hi); clear BK419; clear HK; clear HB; clear HI0; have BK419 := n0_; have HK := n1_; have HB := n2_; have HI0 := n3_; clear n0_ n1_ n2_ n3_; (try clear hb); (try clear hb2); (try clear hk); (try clear hi)) | ((with_reducible refine gate_dst (N := 3) rfl ?_); refine box_event ?hg (N := 3) ?hd (cs := #[.int .i64 0, .bool false, .string (⟨#[]⟩ : ByteArray), .int .i64 0]) (t := 50) ?hr ?_; (case hd => rfl); (case hg => rfl); (case hr => first | (go_simp; done) | (go_simp; rfl)); intro gb423 hg w9 hbox hb; have n0_ := Aside0.mk (IsS41.below (by repeat (first | (with_reducible first | exact HI0.out | apply IsS41.alloc | apply IsS41.drewN | apply IsS41.drew | apply IsS41.set_1 | apply IsS41.set_2 | refine IsS41.far ?_ NB0_419.out _) | exact HI0.out)) hb); have n1_ := Aside0.mk (blk_below (g := gb419) (o := .cells #[.int .i64 0, .bool false, .string (⟨#[]⟩ : ByteArray), .int .i64 0] 50 (0, 0)) (by (with_reducible repeat (first | refine blk_drewN ?_ _ | refine blk_drew ?_ | refine blk_alloc ?_ _)); exact BK419.out) hb); have n2_ := Aside0.mk (KeepBut.trans (by repeat (first | (with_reducible first | exact HK.out | apply KeepBut.set_ | apply keep_drewN | apply keep_drew | apply keep_alloc | refine keep_far ?_ GW419.out _) | exact HK.out)) (KeepBut.of_below hb g none) (.inl rfl)); have n3_ := Aside0.mk (below_step (by repeat (first | (with_reducible first | exact HB.out | apply below_alloc | apply pw_below_drewN | apply below_drew1 | refine below_set ?_ (IsS41.ge HI0.out) | refine below_set ?_ GE419.out) | exact HB.out)) hb); have n4_ := Aside0.mk (hbox); have n5_ := Aside0.mk ((by rw [hg]; exact (keep_size (w := w) (g := g) (row := none) (by repeat (first | (with_reducible first | exact HK.out | apply KeepBut.set_ | apply keep_drewN | apply keep_drew | apply keep_alloc | refine keep_far ?_ GW419.out _) | exact HK.out))) : w.heap.size ≤ gb423)); have n6_ := Aside0.mk ((Nat.le_trans HW0.out (by rw [hg]; exact (keep_size (w := w) (g := g) (row := none) (by repeat (first | (with_reducible first | exact HK.out | apply KeepBut.set_ | apply keep_drewN | apply keep_drew | apply keep_alloc | refine keep_far ?_ GW419.out _) | exact HK.out))) : w.heap.size ≤ gb423) : w0.heap.size ≤ gb423)); have n7_ := Aside0.mk ((by rw [hg]; exact Nat.ne_of_lt (blk_lt (g := gb419) (o := .cells #[.int .i64 0, .bool false, .string (⟨#[]⟩ : ByteArray), .int .i64 0] 50 (0, 0)) (by (with_reducible repeat (first | refine blk_drewN ?_ _ | refine blk_drew ?_ | refine blk_alloc ?_ _)); exact BK419.out)) : gb419 ≠ gb423)); have n8_ := Aside0.mk ((by rw [hg]; exact Nat.ne_of_gt (blk_lt (g := gb419) (o := .cells #[.int .i64 0, .bool false, .string (⟨#[]⟩ : ByteArray), .int .i64 0] 50 (0, 0)) (by (with_reducible repeat (first | refine blk_drewN ?_ _ | refine blk_drew ?_ | refine blk_alloc ?_ _)); exact BK419.out)) : gb423 ≠ gb419)); have n9_ := Aside0.mk ((by rw [hg]; exact Nat.ne_of_lt (IsS41.lt (show IsS41 w0 _ g s0_0 t421 t422 from by repeat (first | (with_reducible first | exact HI0.out | apply IsS41.alloc | apply IsS41.drewN | apply IsS41.drew | apply IsS41.set_1 | apply IsS41.set_2 | refine IsS41.far ?_ NB0_419.out _) | exact HI0.out))) : g ≠ gb423)); have n10_ := Aside0.mk ((by rw [hg]; exact Nat.ne_of_gt (IsS41.lt (show IsS41 w0 _ g s0_0 t421 t422 from by repeat (first | (with_reducible first | exact HI0.out | apply IsS41.alloc | apply IsS41.drewN | apply IsS41.drew | apply IsS41.set_1 | apply IsS41.set_2 | refine IsS41.far ?_ NB0_419.out _) | exact HI0.out))) : gb423 ≠ g)); clear HI0; clear BK419; clear HK; clear HB; have HI0 := n0_; have BK419 := n1_; have HK := n2_; have HB := n3_; have BK423 := n4_; have GW423 := n5_; have GE423 := n6_; have NB419_423 := n7_; have NB423_419 := n8_; have NB0_423 := n9_; have NB423_0 := n10_; clear n0_ n1_ n2_ n3_ n4_ n5_ n6_ n7_ n8_ n9_ n10_; clear hb hbox hg; have hnb10 := NB423_419.out; have hnc10 := NB419_423.out; have hnb11 := NB423_0.out; have hnc11 := NB0_423.out; have hcz12_0 : w9.cell? ⟨gb423, 0, none⟩ = some (.int .i64 0) := (blk_cell BK423.out 0).trans rfl; have hcz12_1 : w9.cell? ⟨gb423, 1, none⟩ = some (.bool false) := (blk_cell BK423.out 1).trans rfl; have hcz12_2 : w9.cell? ⟨gb423, 2, none⟩ = some (.string (⟨#[]⟩ : ByteArray)) := (blk_cell BK423.out 2).trans rfl; have hcz12_3 : w9.cell? ⟨gb423, 3, none⟩ = some (.int .i64 0) := (blk_cell BK423.out 3).trans rfl; have hfz12_0 := blk_frozen BK423.out 0; have hfz12_1 := blk_frozen BK423.out 1; have hfz12_2 := blk_frozen BK423.out 2; have hfz12_3 := blk_frozen BK423.out 3) | ((with_reducible refine gate_callee (f := 48) rfl ?_); refine goesL_ (some 9) rfl rfl Try.func48 (by kernel_rfl) rfl #[.pointer (some ⟨g, 0, none⟩)] rfl (by (try simp only [List.map_toArray, List.map_cons, List.map_nil]); first | done | rfl | (simp only [List.length_drop, List.length_take]; rfl)) ?_; (with_reducible refine (gleberef01_Reader_Num.calls k g s0_0 t421 t422 t424 t425 t426 w0 _ ?side1 ?side2 A3.out).mono ?_); (case side1 => repeat (first | (with_reducible first | exact HI0.out | apply IsS41.alloc | apply IsS41.drewN | apply IsS41.drew | apply IsS41.set_1 | apply IsS41.set_2 | refine IsS41.far ?_ NB0_419.out _ | refine IsS41.far ?_ NB0_423.out _) | exact HI0.out)); (case side2 => repeat (first | (with_reducible first | exact HB.out | apply below_alloc | apply pw_below_drewN | apply below_drew1 | refine below_set ?_ (IsS41.ge HI0.out) | refine below_set ?_ GE419.out | refine below_set ?_ GE423.out) | exact HB.out)); rintro e w13 ⟨rfl, hi, hb, hk⟩; refine ⟨_, rfl, ?_⟩; have n0_ := Aside0.mk (KeepBut.blk hk (g' := gb419) (o := .cells #[.int .i64 0, .bool false, .string (⟨#[]⟩ : ByteArray), .int .i64 0] 50 (0, 0)) (by (with_reducible repeat (first | refine blk_drewN ?_ _ | refine blk_drew ?_ | refine blk_alloc ?_ _)); refine blk_far ?_ NB419_423.out _; (with_reducible repeat (first | refine blk_drewN ?_ _ | refine blk_drew ?_ | refine blk_alloc ?_ _)); refine blk_far ?_ NB419_423.out _; (with_reducible repeat (first | refine blk_drewN ?_ _ | refine blk_drew ?_ | refine blk_alloc ?_ _)); refine blk_far ?_ NB419_423.out _; (with_reducible repeat (first | refine blk_drewN ?_ _ | refine blk_drew ?_ | refine blk_alloc ?_ _)); refine blk_far ?_ NB419_423.out _; (with_reducible repeat (first | refine blk_drewN ?_ _ | refine blk_drew ?_ | refine blk_alloc ?_ _)); exact BK419.out) NB419_0.out (by simp)); have n1_ := Aside0.mk (KeepBut.blk hk (g' := gb423) (o := .cells #[.int .i64 t420, .bool false, .string (⟨#[]⟩ : ByteArray), .int .i64 0] 50 (0, 0)) (by (with_reducible repeat (first | refine blk_drewN ?_ _ | refine blk_drew ?_ | refine blk_alloc ?_ _)); refine blk_put (cs := #[.int .i64 t420, .bool false, .string (⟨#[]⟩ : ByteArray), .int .i64 0]) ?_ 3 _ rfl; (with_reducible repeat (first | refine blk_drewN ?_ _ | refine blk_drew ?_ | refine blk_alloc ?_ _)); refine blk_put (cs := #[.int .i64 t420, .bool false, .string (⟨#[]⟩ : ByteArray), .int .i64 0]) ?_ 2 _ rfl; (with_reducible repeat (first | refine blk_drewN ?_ _ | refine blk_drew ?_ | refine blk_alloc ?_ _)); refine blk_put (cs := #[.int .i64 t420, .bool false, .string (⟨#[]⟩ : ByteArray), .int .i64 0]) ?_ 1 _ rfl; (with_reducible repeat (first | refine blk_drewN ?_ _ | refine blk_drew ?_ | refine blk_alloc ?_ _)); refine blk_put (cs := #[.int .i64 0, .bool false, .string (⟨#[]⟩ : ByteArray), .int .i64 0]) ?_ 0 _ rfl; (with_reducible repeat (first | refine blk_drewN ?_ _ | refine blk_drew ?_ | refine blk_alloc ?_ _)); exact BK423.out) NB423_0.out (by simp)); have n2_ := Aside0.mk (KeepBut.trans (by repeat (first | (with_reducible first | exact HK.out | apply KeepBut.set_ | apply keep_drewN | apply keep_drew | apply keep_alloc | refine keep_far ?_ GW419.out _ | refine keep_far ?_ GW423.out _) | exact HK.out)) hk (.inl rfl)); have n3_ := Aside0.mk (hb); have n4_ := Aside0.mk (hi); clear BK419; clear BK423; clear HK; clear HB; clear HI0; have BK419 := n0_; have BK423 := n1_; have HK := n2_; have HB := n3_; have HI0 := n4_; clear n0_ n1_ n2_ n3_ n4_; (try clear hb); (try clear hb2); (try clear hk); (try clear hi); have hcz14_0 : w13.cell? ⟨gb423, 0, none⟩ = some (.int .i64 t420) := (blk_cell BK423.out 0).trans rfl; have hcz14_1 : w13.cell? ⟨gb423, 1, none⟩ = some (.bool false) := (blk_cell BK423.out 1).trans rfl; have hcz14_2 : w13.cell? ⟨gb423, 2, none⟩ = some (.string (⟨#[]⟩ : ByteArray)) := (blk_cell BK423.out 2).trans rfl; have hcz14_3 : w13.cell? ⟨gb423, 3, none⟩ = some (.int .i64 0) := (blk_cell BK423.out 3).trans rfl; have hfz14_0 := blk_frozen BK423.out 0; have hfz14_1 := blk_frozen BK423.out 1; have hfz14_2 := blk_frozen BK423.out 2; have hfz14_3 := blk_frozen BK423.out 3) | ((with_reducible refine gate_callee (f := 49) rfl ?_); refine goesL_ (some 14) rfl rfl Try.func49 (by kernel_rfl) rfl #[.pointer (some ⟨g, 0, none⟩), .int .i64 32] rfl (by (try simp only [List.map_toArray, List.map_cons, List.map_nil]); first | done | rfl | (simp only [List.length_drop, List.length_take]; rfl)) ?_; (with_reducible refine (gleberef01_Reader_Text.calls k g s0_0 t425 t426 32 t427 t428 t429 w0 _ ?side1 ?side2 A4.out).mono ?_); (case side1 => repeat (first | (with_reducible first | exact HI0.out | apply IsS41.alloc | apply IsS41.drewN | apply IsS41.drew | apply IsS41.set_1 | apply IsS41.set_2 | refine IsS41.far ?_ NB0_419.out _ | refine IsS41.far ?_ NB0_423.out _) | exact HI0.out)); (case side2 => repeat (first | (with_reducible first | exact HB.out | apply below_alloc | apply pw_below_drewN | apply below_drew1 | refine below_set ?_ (IsS41.ge HI0.out) | refine below_set ?_ GE419.out | refine below_set ?_ GE423.out) | exact HB.out)); rintro e w15 ⟨rfl, hi, hb, hk⟩; refine ⟨_, rfl, ?_⟩; have n0_ := Aside0.mk (KeepBut.blk hk (g' := gb419) (o := .cells #[.int .i64 0, .bool false, .string (⟨#[]⟩ : ByteArray), .int .i64 0] 50 (0, 0)) (by (with_reducible repeat (first | refine blk_drewN ?_ _ | refine blk_drew ?_ | refine blk_alloc ?_ _)); refine blk_far ?_ NB419_423.out _; (with_reducible repeat (first | refine blk_drewN ?_ _ | refine blk_drew ?_ | refine blk_alloc ?_ _)); exact BK419.out) NB419_0.out (by simp)); have n1_ := Aside0.mk (KeepBut.blk hk (g' := gb423) (o := .cells #[.int .i64 t420, .bool (t424 == 1), .string (⟨#[]⟩ : ByteArray), .int .i64 0] 50 (0, 0)) (by (with_reducible repeat (first | refine blk_drewN ?_ _ | refine blk_drew ?_ | refine blk_alloc ?_ _)); refine blk_put (cs := #[.int .i64 t420, .bool false, .string (⟨#[]⟩ : ByteArray), .int .i64 0]) ?_ 1 _ rfl; (with_reducible repeat (first | refine blk_drewN ?_ _ | refine blk_drew ?_ | refine blk_alloc ?_ _)); exact BK423.out) NB423_0.out (by simp)); have n2_ := Aside0.mk (KeepBut.trans (by repeat (first | (with_reducible first | exact HK.out | apply KeepBut.set_ | apply keep_drewN | apply keep_drew | apply keep_alloc | refine keep_far ?_ GW419.out _ | refine keep_far ?_ GW423.out _) | exact HK.out)) hk (.inl rfl)); have n3_ := Aside0.mk (hb); have n4_ := Aside0.mk (hi); clear BK419; clear BK423; clear HK; clear HB; clear HI0; have BK419 := n0_; have BK423 := n1_; have HK := n2_; have HB := n3_; have HI0 := n4_; clear n0_ n1_ n2_ n3_ n4_; (try clear hb); (try clear hb2); (try clear hk); (try clear hi); have hcz16_0 : w15.cell? ⟨gb423, 0, none⟩ = some (.int .i64 t420) := (blk_cell BK423.out 0).trans rfl; have hcz16_1 : w15.cell? ⟨gb423, 1, none⟩ = some (.bool (t424 == 1)) := (blk_cell BK423.out 1).trans rfl; have hcz16_2 : w15.cell? ⟨gb423, 2, none⟩ = some (.string (⟨#[]⟩ : ByteArray)) := (blk_cell BK423.out 2).trans rfl; have hcz16_3 : w15.cell? ⟨gb423, 3, none⟩ = some (.int .i64 0) := (blk_cell BK423.out 3).trans rfl; have hfz16_0 := blk_frozen BK423.out 0; have hfz16_1 := blk_frozen BK423.out 1; have hfz16_2 := blk_frozen BK423.out 2; have hfz16_3 := blk_frozen BK423.out 3) | ((with_reducible refine gate_callee (f := 48) rfl ?_); refine goesL_ (some 17) rfl rfl Try.func48 (by kernel_rfl) rfl #[.pointer (some ⟨g, 0, none⟩)] rfl (by (try simp only [List.map_toArray, List.map_cons, List.map_nil]); first | done | rfl | (simp only [List.length_drop, List.length_take]; rfl)) ?_; (with_reducible refine (gleberef01_Reader_Num.calls k g s0_0 t428 t429 t430 t431 t432 w0 _ ?side1 ?side2 A5.out).mono ?_); (case side1 => repeat (first | (with_reducible first | exact HI0.out | apply IsS41.alloc | apply IsS41.drewN | apply IsS41.drew | apply IsS41.set_1 | apply IsS41.set_2 | refine IsS41.far ?_ NB0_419.out _ | refine IsS41.far ?_ NB0_423.out _) | exact HI0.out)); (case side2 => repeat (first | (with_reducible first | exact HB.out | apply below_alloc | apply pw_below_drewN | apply below_drew1 | refine below_set ?_ (IsS41.ge HI0.out) | refine below_set ?_ GE419.out | refine below_set ?_ GE423.out) | exact HB.out)); rintro e w17 ⟨rfl, hi, hb, hk⟩; refine ⟨_, rfl, ?_⟩; have n0_ := Aside0.mk (KeepBut.blk hk (g' := gb419) (o := .cells #[.int .i64 0, .bool false, .string (⟨#[]⟩ : ByteArray), .int .i64 0] 50 (0, 0)) (by (with_reducible repeat (first | refine blk_drewN ?_ _ | refine blk_drew ?_ | refine blk_alloc ?_ _)); refine blk_far ?_ NB419_423.out _; (with_reducible repeat (first | refine blk_drewN ?_ _ | refine blk_drew ?_ | refine blk_alloc ?_ _)); exact BK419.out) NB419_0.out (by simp)); have n1_ := Aside0.mk (KeepBut.blk hk (g' := gb423) (o := .cells #[.int .i64 t420, .bool (t424 == 1), .string t427, .int .i64 0] 50 (0, 0)) (by (with_reducible repeat (first | refine blk_drewN ?_ _ | refine blk_drew ?_ | refine blk_alloc ?_ _)); refine blk_put (cs := #[.int .i64 t420, .bool (t424 == 1), .string (⟨#[]⟩ : ByteArray), .int .i64 0]) ?_ 2 _ rfl; (with_reducible repeat (first | refine blk_drewN ?_ _ | refine blk_drew ?_ | refine blk_alloc ?_ _)); exact BK423.out) NB423_0.out (by simp)); have n2_ := Aside0.mk (KeepBut.trans (by repeat (first | (with_reducible first | exact HK.out | apply KeepBut.set_ | apply keep_drewN | apply keep_drew | apply keep_alloc | refine keep_far ?_ GW419.out _ | refine keep_far ?_ GW423.out _) | exact HK.out)) hk (.inl rfl)); have n3_ := Aside0.mk (hb); have n4_ := Aside0.mk (hi); clear BK419; clear BK423; clear HK; clear HB; clear HI0; have BK419 := n0_; have BK423 := n1_; have HK := n2_; have HB := n3_; have HI0 := n4_; clear n0_ n1_ n2_ n3_ n4_; (try clear hb); (try clear hb2); (try clear hk); (try clear hi); have hcz18_0 : w17.cell? ⟨gb423, 0, none⟩ = some (.int .i64 t420) := (blk_cell BK423.out 0).trans rfl; have hcz18_1 : w17.cell? ⟨gb423, 1, none⟩ = some (.bool (t424 == 1)) := (blk_cell BK423.out 1).trans rfl; have hcz18_2 : w17.cell? ⟨gb423, 2, none⟩ = some (.string t427) := (blk_cell BK423.out 2).trans rfl; have hcz18_3 : w17.cell? ⟨gb423, 3, none⟩ = some (.int .i64 0) := (blk_cell BK423.out 3).trans rfl; have hfz18_0 := blk_frozen BK423.out 0; have hfz18_1 := blk_frozen BK423.out 1; have hfz18_2 := blk_frozen BK423.out 2; have hfz18_3 := blk_frozen BK423.out 3))
 (try simp only [Act.put, List.setIfInBounds_toArray, List.set_cons_zero, List.set_cons_succ])
 go_cut [25] (fun v25 wc => ∃ (kq : Nat) (x25_5 : Bool), v25 = .bool x25_5 ∧ Aside0 (gleberef07_TakeAns.j0 kq x25_5 s0_0 t431 t432 t420 (t424 == 1) t427 t430 = some (r1, r2, r3, r4, r5, r6)) ∧ Aside0 (kq ≤ k) ∧ Aside0 (wc.heap[gb419]? = some (.cells #[.int .i64 0, .bool false, .string (⟨#[]⟩ : ByteArray), .int .i64 0] 50 (0, 0))) ∧ Aside0 (wc.heap[gb423]? = some (.cells #[.int .i64 t420, .bool (t424 == 1), .string t427, .int .i64 t430] 50 (0, 0))) ∧ Aside0 (IsS41 w0 wc g s0_0 t431 t432) ∧ Aside0 (KeepBut w wc g none) ∧ Aside0 (Below w0.heap.size w0 wc))
 case first =>
  have H := HC6.out
  clear HC6
  replace H := Option.bind_eq_some_iff.mp H
  obtain ⟨t433, A190, H⟩ := H
  replace H : (if t433 = true then (gleberef07_TakeAns.j0 k (decide (t424 > 1)) s0_0 t431 t432 t420 (t424 == 1) t427 t430) else (gleberef07_TakeAns.j0 k true s0_0 t431 t432 t420 (t424 == 1) t427 t430)) = some (r1, r2, r3, r4, r5, r6) := H
  have A19 := Aside0.mk A190
  clear A190
  by_cases c20 : t433 = true
  ·subst c20
   have H1 : (gleberef07_TakeAns.j0 k (decide (t424 > 1)) s0_0 t431 t432 t420 (t424 == 1) t427 t430) = some (r1, r2, r3, r4, r5, r6) := by rw [if_pos rfl] at H; exact H
   clear H
   have H := H1
   clear H1
   have H' := Aside0.mk H
   clear H
   have hnb21 := NB423_419.out
   have hnc21 := NB419_423.out
   have hnb22 := NB423_0.out
   have hnc22 := NB0_423.out
   have hcz23_0 : w17.cell? ⟨gb423, 0, none⟩ = some (.int .i64 t420) := (blk_cell BK423.out 0).trans rfl
   have hcz23_1 : w17.cell? ⟨gb423, 1, none⟩ = some (.bool (t424 == 1)) := (blk_cell BK423.out 1).trans rfl
   have hcz23_2 : w17.cell? ⟨gb423, 2, none⟩ = some (.string t427) := (blk_cell BK423.out 2).trans rfl
   have hcz23_3 : w17.cell? ⟨gb423, 3, none⟩ = some (.int .i64 0) := (blk_cell BK423.out 3).trans rfl
   have hfz23_0 := blk_frozen BK423.out 0
   have hfz23_1 := blk_frozen BK423.out 1
   have hfz23_2 := blk_frozen BK423.out 2
   have hfz23_3 := blk_frozen BK423.out 3
   go_wp2_with (first | ((with_reducible refine gate_callee (f := 38) rfl ?_); refine goesL_ (some 20) rfl rfl Try.func38 (by kernel_rfl) rfl #[.agg #[.int .i64 t420, .bool (t424 == 1), .string t427, .int .i64 t430]] rfl (by (try simp only [List.map_toArray, List.map_cons, List.map_nil]); first | done | rfl | (simp only [List.length_drop, List.length_take]; rfl)) ?_; (with_reducible refine (gleberef07_RightAns.calls t420 (t424 == 1) t427 t430 true _ A19.out).mono ?_); rintro e w24 ⟨rfl, hb⟩; refine ⟨_, rfl, ?_⟩; have n0_ := Aside0.mk (IsS41.below (show IsS41 w0 (w17.setCell ⟨gb423, 3, none⟩ (.int .i64 t430)) g s0_0 t431 t432 from by repeat (first | (with_reducible first | exact HI0.out | apply IsS41.alloc | apply IsS41.drewN | apply IsS41.drew | apply IsS41.set_1 | apply IsS41.set_2 | refine IsS41.far ?_ NB0_419.out _ | refine IsS41.far ?_ NB0_423.out _) | exact HI0.out)) hb); have n1_ := Aside0.mk (blk_below (g := gb419) (o := .cells #[.int .i64 0, .bool false, .string (⟨#[]⟩ : ByteArray), .int .i64 0] 50 (0, 0)) (by (with_reducible repeat (first | refine blk_drewN ?_ _ | refine blk_drew ?_ | refine blk_alloc ?_ _)); refine blk_far ?_ NB419_423.out _; (with_reducible repeat (first | refine blk_drewN ?_ _ | refine blk_drew ?_ | refine blk_alloc ?_ _)); exact BK419.out) hb); have n2_ := Aside0.mk (blk_below (g := gb423) (o := .cells #[.int .i64 t420, .bool (t424 == 1), .string t427, .int .i64 t430] 50 (0, 0)) (by (with_reducible repeat (first | refine blk_drewN ?_ _ | refine blk_drew ?_ | refine blk_alloc ?_ _)); refine blk_put (cs := #[.int .i64 t420, .bool (t424 == 1), .string t427, .int .i64 0]) ?_ 3 _ rfl; (with_reducible repeat (first | refine blk_drewN ?_ _ | refine blk_drew ?_ | refine blk_alloc ?_ _)); exact BK423.out) hb); have n3_ := Aside0.mk (KeepBut.trans (by repeat (first | (with_reducible first | exact HK.out | apply KeepBut.set_ | apply keep_drewN | apply keep_drew | apply keep_alloc | refine keep_far ?_ GW419.out _ | refine keep_far ?_ GW423.out _) | exact HK.out)) (KeepBut.of_below hb g none) (.inl rfl)); have n4_ := Aside0.mk (below_step (by repeat (first | (with_reducible first | exact HB.out | apply below_alloc | apply pw_below_drewN | apply below_drew1 | refine below_set ?_ (IsS41.ge HI0.out) | refine below_set ?_ GE419.out | refine below_set ?_ GE423.out) | exact HB.out)) hb); clear HI0; clear BK419; clear BK423; clear HK; clear HB; have HI0 := n0_; have BK419 := n1_; have BK423 := n2_; have HK := n3_; have HB := n4_; clear n0_ n1_ n2_ n3_ n4_; (try clear hb); (try clear hb2); (try clear hk); (try clear hi)))
   go_meet
   case rel => exact ⟨_, (decide (t424 > 1)), (by first | rfl | (simp; done) | (simp [*]; done)), H', ⟨by first | omega | exact Nat.le_refl _⟩, ⟨by (with_reducible repeat (first | refine blk_drewN ?_ _ | refine blk_drew ?_ | refine blk_alloc ?_ _)); exact BK419.out⟩, ⟨by (with_reducible repeat (first | refine blk_drewN ?_ _ | refine blk_drew ?_ | refine blk_alloc ?_ _)); exact BK423.out⟩, ⟨by repeat (first | (with_reducible first | exact HI0.out | apply IsS41.alloc | apply IsS41.drewN | apply IsS41.drew | apply IsS41.set_1 | apply IsS41.set_2 | refine IsS41.far ?_ NB0_419.out _ | refine IsS41.far ?_ NB0_423.out _) | exact HI0.out)⟩, ⟨by repeat (first | (with_reducible first | exact HK.out | apply KeepBut.set_ | apply keep_drewN | apply keep_drew | apply keep_alloc | refine keep_far ?_ GW419.out _ | refine keep_far ?_ GW423.out _) | exact HK.out)⟩, ⟨by repeat (first | (with_reducible first | exact HB.out | apply below_alloc | apply pw_below_drewN | apply below_drew1 | refine below_set ?_ (IsS41.ge HI0.out) | refine below_set ?_ GE419.out | refine below_set ?_ GE423.out) | exact HB.out)⟩⟩
  ·replace c20 := Bool.eq_false_iff.mpr c20
   subst c20
   have H1 : (gleberef07_TakeAns.j0 k true s0_0 t431 t432 t420 (t424 == 1) t427 t430) = some (r1, r2, r3, r4, r5, r6) := by rw [if_neg (show ¬ (false = true) by decide)] at H; exact H
   clear H
   have H := H1
   clear H1
   have H' := Aside0.mk H
   clear H
   have hnb25 := NB423_419.out
   have hnc25 := NB419_423.out
   have hnb26 := NB423_0.out
   have hnc26 := NB0_423.out
   have hcz27_0 : w17.cell? ⟨gb423, 0, none⟩ = some (.int .i64 t420) := (blk_cell BK423.out 0).trans rfl
   have hcz27_1 : w17.cell? ⟨gb423, 1, none⟩ = some (.bool (t424 == 1)) := (blk_cell BK423.out 1).trans rfl
   have hcz27_2 : w17.cell? ⟨gb423, 2, none⟩ = some (.string t427) := (blk_cell BK423.out 2).trans rfl
   have hcz27_3 : w17.cell? ⟨gb423, 3, none⟩ = some (.int .i64 0) := (blk_cell BK423.out 3).trans rfl
   have hfz27_0 := blk_frozen BK423.out 0
   have hfz27_1 := blk_frozen BK423.out 1
   have hfz27_2 := blk_frozen BK423.out 2
   have hfz27_3 := blk_frozen BK423.out 3
   go_wp2_with (first | ((with_reducible refine gate_callee (f := 38) rfl ?_); refine goesL_ (some 20) rfl rfl Try.func38 (by kernel_rfl) rfl #[.agg #[.int .i64 t420, .bool (t424 == 1), .string t427, .int .i64 t430]] rfl (by (try simp only [List.map_toArray, List.map_cons, List.map_nil]); first | done | rfl | (simp only [List.length_drop, List.length_take]; rfl)) ?_; (with_reducible refine (gleberef07_RightAns.calls t420 (t424 == 1) t427 t430 false _ A19.out).mono ?_); rintro e w28 ⟨rfl, hb⟩; refine ⟨_, rfl, ?_⟩; have n0_ := Aside0.mk (IsS41.below (show IsS41 w0 (w17.setCell ⟨gb423, 3, none⟩ (.int .i64 t430)) g s0_0 t431 t432 from by repeat (first | (with_reducible first | exact HI0.out | apply IsS41.alloc | apply IsS41.drewN | apply IsS41.drew | apply IsS41.set_1 | apply IsS41.set_2 | refine IsS41.far ?_ NB0_419.out _ | refine IsS41.far ?_ NB0_423.out _) | exact HI0.out)) hb); have n1_ := Aside0.mk (blk_below (g := gb419) (o := .cells #[.int .i64 0, .bool false, .string (⟨#[]⟩ : ByteArray), .int .i64 0] 50 (0, 0)) (by (with_reducible repeat (first | refine blk_drewN ?_ _ | refine blk_drew ?_ | refine blk_alloc ?_ _)); refine blk_far ?_ NB419_423.out _; (with_reducible repeat (first | refine blk_drewN ?_ _ | refine blk_drew ?_ | refine blk_alloc ?_ _)); exact BK419.out) hb); have n2_ := Aside0.mk (blk_below (g := gb423) (o := .cells #[.int .i64 t420, .bool (t424 == 1), .string t427, .int .i64 t430] 50 (0, 0)) (by (with_reducible repeat (first | refine blk_drewN ?_ _ | refine blk_drew ?_ | refine blk_alloc ?_ _)); refine blk_put (cs := #[.int .i64 t420, .bool (t424 == 1), .string t427, .int .i64 0]) ?_ 3 _ rfl; (with_reducible repeat (first | refine blk_drewN ?_ _ | refine blk_drew ?_ | refine blk_alloc ?_ _)); exact BK423.out) hb); have n3_ := Aside0.mk (KeepBut.trans (by repeat (first | (with_reducible first | exact HK.out | apply KeepBut.set_ | apply keep_drewN | apply keep_drew | apply keep_alloc | refine keep_far ?_ GW419.out _ | refine keep_far ?_ GW423.out _) | exact HK.out)) (KeepBut.of_below hb g none) (.inl rfl)); have n4_ := Aside0.mk (below_step (by repeat (first | (with_reducible first | exact HB.out | apply below_alloc | apply pw_below_drewN | apply below_drew1 | refine below_set ?_ (IsS41.ge HI0.out) | refine below_set ?_ GE419.out | refine below_set ?_ GE423.out) | exact HB.out)) hb); clear HI0; clear BK419; clear BK423; clear HK; clear HB; have HI0 := n0_; have BK419 := n1_; have BK423 := n2_; have HK := n3_; have HB := n4_; clear n0_ n1_ n2_ n3_ n4_; (try clear hb); (try clear hb2); (try clear hk); (try clear hi)))
   go_meet
   case rel => exact ⟨_, (true), (by first | rfl | (simp; done) | (simp [*]; done)), H', ⟨by first | omega | exact Nat.le_refl _⟩, ⟨by (with_reducible repeat (first | refine blk_drewN ?_ _ | refine blk_drew ?_ | refine blk_alloc ?_ _)); exact BK419.out⟩, ⟨by (with_reducible repeat (first | refine blk_drewN ?_ _ | refine blk_drew ?_ | refine blk_alloc ?_ _)); exact BK423.out⟩, ⟨by repeat (first | (with_reducible first | exact HI0.out | apply IsS41.alloc | apply IsS41.drewN | apply IsS41.drew | apply IsS41.set_1 | apply IsS41.set_2 | refine IsS41.far ?_ NB0_419.out _ | refine IsS41.far ?_ NB0_423.out _) | exact HI0.out)⟩, ⟨by repeat (first | (with_reducible first | exact HK.out | apply KeepBut.set_ | apply keep_drewN | apply keep_drew | apply keep_alloc | refine keep_far ?_ GW419.out _ | refine keep_far ?_ GW423.out _) | exact HK.out)⟩, ⟨by repeat (first | (with_reducible first | exact HB.out | apply below_alloc | apply pw_below_drewN | apply below_drew1 | refine below_set ?_ (IsS41.ge HI0.out) | refine below_set ?_ GE419.out | refine below_set ?_ GE423.out) | exact HB.out)⟩⟩
 case rest =>
  clear HC6
  try clear c1
  try clear c2
  try clear p2
  try clear c3
  try clear c4
  try clear c10
  try clear c11
  try clear c20
  try clear c21
  try clear c22
  try clear c23
  try clear c25
  try clear c26
  try clear hcz12_0
  try clear hcz12_1
  try clear hcz12_2
  try clear hcz12_3
  try clear hcz14_0
  try clear hcz14_1
  try clear hcz14_2
  try clear hcz14_3
  try clear hcz16_0
  try clear hcz16_1
  try clear hcz16_2
  try clear hcz16_3
  try clear hcz18_0
  try clear hcz18_1
  try clear hcz18_2
  try clear hcz18_3
  try clear hcz23_0
  try clear hcz23_1
  try clear hcz23_2
  try clear hcz23_3
  try clear hcz27_0
  try clear hcz27_1
  try clear hcz27_2
  try clear hcz27_3
  try clear hfz12_0
  try clear hfz12_1
  try clear hfz12_2
  try clear hfz12_3
  try clear hfz14_0
  try clear hfz14_1
  try clear hfz14_2
  try clear hfz14_3
  try clear hfz16_0
  try clear hfz16_1
  try clear hfz16_2
  try clear hfz16_3
  try clear hfz18_0
  try clear hfz18_1
  try clear hfz18_2
  try clear hfz18_3
  try clear hfz23_0
  try clear hfz23_1
  try clear hfz23_2
  try clear hfz23_3
  try clear hfz27_0
  try clear hfz27_1
  try clear hfz27_2
  try clear hfz27_3
  obtain ⟨kq, x25_5, rfl, HA, HJ5, BK419, BK423, HI0, HK, HB⟩ := hcut
  cases kq with
  | zero => exact absurd HA.out (by simp [gleberef07_TakeAns.j0])
  | succ kj5 =>
   have H := HA.out
   clear HA
   simp only [gleberef07_TakeAns.j0] at H
   by_cases c29 : x25_5 = true
   ·subst c29
    have H1 : ((gleberef01_Reader_Fail.f s0_0 t431 t432 21).bind fun bt434 => (if bt434.2 = 0 then (some (t420, (t424 == 1), t427, t430, bt434.1, bt434.2)) else (some (0, false, (⟨#[]⟩ : ByteArray), 0, bt434.1, bt434.2)))) = some (r1, r2, r3, r4, r5, r6) := by rw [if_pos rfl] at H; exact H
    clear H
    have H := H1
    clear H1
    replace H := Option.bind_eq_some_iff.mp H
    obtain ⟨⟨t434, t435⟩, A300, H⟩ := H
    replace H : (if t435 = 0 then (some (t420, (t424 == 1), t427, t430, t434, t435)) else (some (0, false, (⟨#[]⟩ : ByteArray), 0, t434, t435))) = some (r1, r2, r3, r4, r5, r6) := H
    have A30 := Aside0.mk A300
    clear A300
    by_cases c31 : t435 = 0
    ·rw [if_pos c31] at H
     have c31b0 : (t435 == 0) = true := beq_iff_eq.mpr c31
     have c31b1 : (t435 != 0) = false := bne_eq_false_iff_eq.mpr c31
     clear c31
     simp only [Option.some.injEq, Prod.mk.injEq] at H
     obtain ⟨rfl, rfl, rfl, rfl, rfl, rfl⟩ := H
     go_wp2_with (first | ((with_reducible refine gate_callee (f := 50) rfl ?_); refine goesL_ (some 27) rfl rfl Try.func50 (by kernel_rfl) rfl #[.pointer (some ⟨g, 0, none⟩), .int .i64 21] rfl (by (try simp only [List.map_toArray, List.map_cons, List.map_nil]); first | done | rfl | (simp only [List.length_drop, List.length_take]; rfl)) ?_; (with_reducible refine (gleberef01_Reader_Fail.calls g s0_0 t431 t432 21 t434 t435 w0 _ ?side1 ?side2 A30.out).mono ?_); (case side1 => repeat (first | (with_reducible first | exact HI0.out | apply IsS41.alloc | apply IsS41.drewN | apply IsS41.drew | apply IsS41.set_1 | apply IsS41.set_2 | refine IsS41.far ?_ NB0_419.out _ | refine IsS41.far ?_ NB0_423.out _) | exact HI0.out)); (case side2 => repeat (first | (with_reducible first | exact HB.out | apply below_alloc | apply pw_below_drewN | apply below_drew1 | refine below_set ?_ (IsS41.ge HI0.out) | refine below_set ?_ GE419.out | refine below_set ?_ GE423.out) | exact HB.out)); rintro e w32 ⟨rfl, hi, hb, hk⟩; refine ⟨_, rfl, ?_⟩; have n0_ := Aside0.mk (KeepBut.blk hk (g' := gb419) (o := .cells #[.int .i64 0, .bool false, .string (⟨#[]⟩ : ByteArray), .int .i64 0] 50 (0, 0)) (by (with_reducible repeat (first | refine blk_drewN ?_ _ | refine blk_drew ?_ | refine blk_alloc ?_ _)); exact BK419.out) NB419_0.out (by simp)); have n1_ := Aside0.mk (KeepBut.blk hk (g' := gb423) (o := .cells #[.int .i64 t420, .bool (t424 == 1), .string t427, .int .i64 t430] 50 (0, 0)) (by (with_reducible repeat (first | refine blk_drewN ?_ _ | refine blk_drew ?_ | refine blk_alloc ?_ _)); exact BK423.out) NB423_0.out (by simp)); have n2_ := Aside0.mk (KeepBut.trans (by repeat (first | (with_reducible first | exact HK.out | apply KeepBut.set_ | apply keep_drewN | apply keep_drew | apply keep_alloc | refine keep_far ?_ GW419.out _ | refine keep_far ?_ GW423.out _) | exact HK.out)) hk (.inl rfl)); have n3_ := Aside0.mk (hb); have n4_ := Aside0.mk (hi); clear BK419; clear BK423; clear HK; clear HB; clear HI0; have BK419 := n0_; have BK423 := n1_; have HK := n2_; have HB := n3_; have HI0 := n4_; clear n0_ n1_ n2_ n3_ n4_; (try clear hb); (try clear hb2); (try clear hk); (try clear hi); obtain ⟨ASz33_0, cSz33_0, HGz33, hgz33, HSz33_0, _⟩ := HI0.out; have hcz33_0 := cellS41_0 HGz33; have hcz33_1 := cellS41_1 HGz33; have hcz33_2 := cellS41_2 HGz33; have hfz33_1 := blk_frozen HGz33 1; have hfz33_2 := blk_frozen HGz33 2; clear HGz33 hgz33; have hnb34 := NB423_419.out; have hnc34 := NB419_423.out; have hnb35 := NB423_0.out; have hnc35 := NB0_423.out; have hcz36_0 : w32.cell? ⟨gb423, 0, none⟩ = some (.int .i64 t420) := (blk_cell BK423.out 0).trans rfl; have hcz36_1 : w32.cell? ⟨gb423, 1, none⟩ = some (.bool (t424 == 1)) := (blk_cell BK423.out 1).trans rfl; have hcz36_2 : w32.cell? ⟨gb423, 2, none⟩ = some (.string t427) := (blk_cell BK423.out 2).trans rfl; have hcz36_3 : w32.cell? ⟨gb423, 3, none⟩ = some (.int .i64 t430) := (blk_cell BK423.out 3).trans rfl; have hfz36_0 := blk_frozen BK423.out 0; have hfz36_1 := blk_frozen BK423.out 1; have hfz36_2 := blk_frozen BK423.out 2; have hfz36_3 := blk_frozen BK423.out 3; have hnb37 := NB419_0.out; have hnc37 := NB0_419.out; have hcz38_0 : w32.cell? ⟨gb419, 0, none⟩ = some (.int .i64 0) := (blk_cell BK419.out 0).trans rfl; have hcz38_1 : w32.cell? ⟨gb419, 1, none⟩ = some (.bool false) := (blk_cell BK419.out 1).trans rfl; have hcz38_2 : w32.cell? ⟨gb419, 2, none⟩ = some (.string (⟨#[]⟩ : ByteArray)) := (blk_cell BK419.out 2).trans rfl; have hcz38_3 : w32.cell? ⟨gb419, 3, none⟩ = some (.int .i64 0) := (blk_cell BK419.out 3).trans rfl; have hfz38_0 := blk_frozen BK419.out 0; have hfz38_1 := blk_frozen BK419.out 1; have hfz38_2 := blk_frozen BK419.out 2; have hfz38_3 := blk_frozen BK419.out 3))
     refine bodyPost_ret (results_cell_row rfl _ _ gb419 50 #[.int .i64 t420, .bool (t424 == 1), .string t427, .int .i64 t430] (0, 0) _ rfl (by (with_reducible repeat (first | refine blk_drewN ?_ _ | refine blk_drew ?_ | refine blk_alloc ?_ _)); refine blk_put (cs := #[.int .i64 t420, .bool (t424 == 1), .string t427, .int .i64 0]) ?_ 3 _ rfl; (with_reducible repeat (first | refine blk_drewN ?_ _ | refine blk_drew ?_ | refine blk_alloc ?_ _)); refine blk_put (cs := #[.int .i64 t420, .bool (t424 == 1), .string (⟨#[]⟩ : ByteArray), .int .i64 0]) ?_ 2 _ rfl; (with_reducible repeat (first | refine blk_drewN ?_ _ | refine blk_drew ?_ | refine blk_alloc ?_ _)); refine blk_put (cs := #[.int .i64 t420, .bool false, .string (⟨#[]⟩ : ByteArray), .int .i64 0]) ?_ 1 _ rfl; (with_reducible repeat (first | refine blk_drewN ?_ _ | refine blk_drew ?_ | refine blk_alloc ?_ _)); refine blk_put (cs := #[.int .i64 0, .bool false, .string (⟨#[]⟩ : ByteArray), .int .i64 0]) ?_ 0 _ rfl; (with_reducible repeat (first | refine blk_drewN ?_ _ | refine blk_drew ?_ | refine blk_alloc ?_ _)); exact BK419.out) Try.underlying50 rfl (by kernel_rfl)) rfl ?_
     exact ⟨by first | rfl | (simp [errW_none, errW_some] <;> rfl) | (simp [*, errW_none, errW_some] <;> rfl), by repeat (first | (with_reducible first | exact HI0.out | apply IsS41.alloc | apply IsS41.drewN | apply IsS41.drew | apply IsS41.set_1 | apply IsS41.set_2 | refine IsS41.far ?_ NB0_419.out _ | refine IsS41.far ?_ NB0_423.out _) | exact HI0.out), by repeat (first | (with_reducible first | exact HB.out | apply below_alloc | apply pw_below_drewN | apply below_drew1 | refine below_set ?_ (IsS41.ge HI0.out) | refine below_set ?_ GE419.out | refine below_set ?_ GE423.out) | exact HB.out), by repeat (first | (with_reducible first | exact HK.out | apply KeepBut.set_ | apply keep_drewN | apply keep_drew | apply keep_alloc | refine keep_far ?_ GW419.out _ | refine keep_far ?_ GW423.out _) | exact HK.out)⟩
    ·rw [if_neg c31] at H
     have c31b0 : (t435 == 0) = false := beq_eq_false_iff_ne.mpr c31
     have c31b1 : (t435 != 0) = true := bne_iff_ne.mpr c31
     simp only [Option.some.injEq, Prod.mk.injEq] at H
     obtain ⟨rfl, rfl, rfl, rfl, rfl, rfl⟩ := H
     go_wp2_with (first | ((with_reducible refine gate_callee (f := 50) rfl ?_); refine goesL_ (some 27) rfl rfl Try.func50 (by kernel_rfl) rfl #[.pointer (some ⟨g, 0, none⟩), .int .i64 21] rfl (by (try simp only [List.map_toArray, List.map_cons, List.map_nil]); first | done | rfl | (simp only [List.length_drop, List.length_take]; rfl)) ?_; (with_reducible refine (gleberef01_Reader_Fail.calls g s0_0 t431 t432 21 t434 t435 w0 _ ?side1 ?side2 A30.out).mono ?_); (case side1 => repeat (first | (with_reducible first | exact HI0.out | apply IsS41.alloc | apply IsS41.drewN | apply IsS41.drew | apply IsS41.set_1 | apply IsS41.set_2 | refine IsS41.far ?_ NB0_419.out _ | refine IsS41.far ?_ NB0_423.out _) | exact HI0.out)); (case side2 => repeat (first | (with_reducible first | exact HB.out | apply below_alloc | apply pw_below_drewN | apply below_drew1 | refine below_set ?_ (IsS41.ge HI0.out) | refine below_set ?_ GE419.out | refine below_set ?_ GE423.out) | exact HB.out)); rintro e w39 ⟨rfl, hi, hb, hk⟩; refine ⟨_, rfl, ?_⟩; have n0_ := Aside0.mk (KeepBut.blk hk (g' := gb419) (o := .cells #[.int .i64 0, .bool false, .string (⟨#[]⟩ : ByteArray), .int .i64 0] 50 (0, 0)) (by (with_reducible repeat (first | refine blk_drewN ?_ _ | refine blk_drew ?_ | refine blk_alloc ?_ _)); exact BK419.out) NB419_0.out (by simp)); have n1_ := Aside0.mk (KeepBut.blk hk (g' := gb423) (o := .cells #[.int .i64 t420, .bool (t424 == 1), .string t427, .int .i64 t430] 50 (0, 0)) (by (with_reducible repeat (first | refine blk_drewN ?_ _ | refine blk_drew ?_ | refine blk_alloc ?_ _)); exact BK423.out) NB423_0.out (by simp)); have n2_ := Aside0.mk (KeepBut.trans (by repeat (first | (with_reducible first | exact HK.out | apply KeepBut.set_ | apply keep_drewN | apply keep_drew | apply keep_alloc | refine keep_far ?_ GW419.out _ | refine keep_far ?_ GW423.out _) | exact HK.out)) hk (.inl rfl)); have n3_ := Aside0.mk (hb); have n4_ := Aside0.mk (hi); clear BK419; clear BK423; clear HK; clear HB; clear HI0; have BK419 := n0_; have BK423 := n1_; have HK := n2_; have HB := n3_; have HI0 := n4_; clear n0_ n1_ n2_ n3_ n4_; (try clear hb); (try clear hb2); (try clear hk); (try clear hi); obtain ⟨ASz40_0, cSz40_0, HGz40, hgz40, HSz40_0, _⟩ := HI0.out; have hcz40_0 := cellS41_0 HGz40; have hcz40_1 := cellS41_1 HGz40; have hcz40_2 := cellS41_2 HGz40; have hfz40_1 := blk_frozen HGz40 1; have hfz40_2 := blk_frozen HGz40 2; clear HGz40 hgz40; have hnb41 := NB419_423.out; have hnc41 := NB423_419.out; have hnb42 := NB419_0.out; have hnc42 := NB0_419.out; have hcz43_0 : w39.cell? ⟨gb419, 0, none⟩ = some (.int .i64 0) := (blk_cell BK419.out 0).trans rfl; have hcz43_1 : w39.cell? ⟨gb419, 1, none⟩ = some (.bool false) := (blk_cell BK419.out 1).trans rfl; have hcz43_2 : w39.cell? ⟨gb419, 2, none⟩ = some (.string (⟨#[]⟩ : ByteArray)) := (blk_cell BK419.out 2).trans rfl; have hcz43_3 : w39.cell? ⟨gb419, 3, none⟩ = some (.int .i64 0) := (blk_cell BK419.out 3).trans rfl; have hfz43_0 := blk_frozen BK419.out 0; have hfz43_1 := blk_frozen BK419.out 1; have hfz43_2 := blk_frozen BK419.out 2; have hfz43_3 := blk_frozen BK419.out 3))
     refine bodyPost_ret (results_cell_row rfl _ _ gb419 50 #[.int .i64 0, .bool false, .string (⟨#[]⟩ : ByteArray), .int .i64 0] (0, 0) _ rfl (by (with_reducible repeat (first | refine blk_drewN ?_ _ | refine blk_drew ?_ | refine blk_alloc ?_ _)); refine blk_put (cs := #[.int .i64 0, .bool false, .string (⟨#[]⟩ : ByteArray), .int .i64 0]) ?_ 3 _ rfl; (with_reducible repeat (first | refine blk_drewN ?_ _ | refine blk_drew ?_ | refine blk_alloc ?_ _)); refine blk_put (cs := #[.int .i64 0, .bool false, .string (⟨#[]⟩ : ByteArray), .int .i64 0]) ?_ 2 _ rfl; (with_reducible repeat (first | refine blk_drewN ?_ _ | refine blk_drew ?_ | refine blk_alloc ?_ _)); refine blk_put (cs := #[.int .i64 0, .bool false, .string (⟨#[]⟩ : ByteArray), .int .i64 0]) ?_ 1 _ rfl; (with_reducible repeat (first | refine blk_drewN ?_ _ | refine blk_drew ?_ | refine blk_alloc ?_ _)); refine blk_put (cs := #[.int .i64 0, .bool false, .string (⟨#[]⟩ : ByteArray), .int .i64 0]) ?_ 0 _ rfl; (with_reducible repeat (first | refine blk_drewN ?_ _ | refine blk_drew ?_ | refine blk_alloc ?_ _)); exact BK419.out) Try.underlying50 rfl (by kernel_rfl)) rfl ?_
     exact ⟨by first | rfl | (simp [errW_none, errW_some] <;> rfl) | (simp [*, errW_none, errW_some] <;> rfl), by repeat (first | (with_reducible first | exact HI0.out | apply IsS41.alloc | apply IsS41.drewN | apply IsS41.drew | apply IsS41.set_1 | apply IsS41.set_2 | refine IsS41.far ?_ NB0_419.out _ | refine IsS41.far ?_ NB0_423.out _) | exact HI0.out), by repeat (first | (with_reducible first | exact HB.out | apply below_alloc | apply pw_below_drewN | apply below_drew1 | refine below_set ?_ (IsS41.ge HI0.out) | refine below_set ?_ GE419.out | refine below_set ?_ GE423.out) | exact HB.out), by repeat (first | (with_reducible first | exact HK.out | apply KeepBut.set_ | apply keep_drewN | apply keep_drew | apply keep_alloc | refine keep_far ?_ GW419.out _ | refine keep_far ?_ GW423.out _) | exact HK.out)⟩
   ·replace c29 := Bool.eq_false_iff.mpr c29
    subst c29
    have H1 : (if t432 = 0 then (some (t420, (t424 == 1), t427, t430, t431, t432)) else (some (0, false, (⟨#[]⟩ : ByteArray), 0, t431, t432))) = some (r1, r2, r3, r4, r5, r6) := by rw [if_neg (show ¬ (false = true) by decide)] at H; exact H
    clear H
    have H := H1
    clear H1
    by_cases c44 : t432 = 0
    ·rw [if_pos c44] at H
     have c44b0 : (t432 == 0) = true := beq_iff_eq.mpr c44
     have c44b1 : (t432 != 0) = false := bne_eq_false_iff_eq.mpr c44
     clear c44
     simp only [Option.some.injEq, Prod.mk.injEq] at H
     obtain ⟨rfl, rfl, rfl, rfl, rfl, rfl⟩ := H
     obtain ⟨ASz45_0, cSz45_0, HGz45, hgz45, HSz45_0, _⟩ := HI0.out
     have hcz45_0 := cellS41_0 HGz45
     have hcz45_1 := cellS41_1 HGz45
     have hcz45_2 := cellS41_2 HGz45
     have hfz45_1 := blk_frozen HGz45 1
     have hfz45_2 := blk_frozen HGz45 2
     clear HGz45 hgz45
     have hnb46 := NB423_419.out
     have hnc46 := NB419_423.out
     have hnb47 := NB423_0.out
     have hnc47 := NB0_423.out
     have hcz48_0 : wc.cell? ⟨gb423, 0, none⟩ = some (.int .i64 t420) := (blk_cell BK423.out 0).trans rfl
     have hcz48_1 : wc.cell? ⟨gb423, 1, none⟩ = some (.bool (t424 == 1)) := (blk_cell BK423.out 1).trans rfl
     have hcz48_2 : wc.cell? ⟨gb423, 2, none⟩ = some (.string t427) := (blk_cell BK423.out 2).trans rfl
     have hcz48_3 : wc.cell? ⟨gb423, 3, none⟩ = some (.int .i64 t430) := (blk_cell BK423.out 3).trans rfl
     have hfz48_0 := blk_frozen BK423.out 0
     have hfz48_1 := blk_frozen BK423.out 1
     have hfz48_2 := blk_frozen BK423.out 2
     have hfz48_3 := blk_frozen BK423.out 3
     have hnb49 := NB419_0.out
     have hnc49 := NB0_419.out
     have hcz50_0 : wc.cell? ⟨gb419, 0, none⟩ = some (.int .i64 0) := (blk_cell BK419.out 0).trans rfl
     have hcz50_1 : wc.cell? ⟨gb419, 1, none⟩ = some (.bool false) := (blk_cell BK419.out 1).trans rfl
     have hcz50_2 : wc.cell? ⟨gb419, 2, none⟩ = some (.string (⟨#[]⟩ : ByteArray)) := (blk_cell BK419.out 2).trans rfl
     have hcz50_3 : wc.cell? ⟨gb419, 3, none⟩ = some (.int .i64 0) := (blk_cell BK419.out 3).trans rfl
     have hfz50_0 := blk_frozen BK419.out 0
     have hfz50_1 := blk_frozen BK419.out 1
     have hfz50_2 := blk_frozen BK419.out 2
     have hfz50_3 := blk_frozen BK419.out 3
     go_wp2
     refine bodyPost_ret (results_cell_row rfl _ _ gb419 50 #[.int .i64 t420, .bool (t424 == 1), .string t427, .int .i64 t430] (0, 0) _ rfl (by (with_reducible repeat (first | refine blk_drewN ?_ _ | refine blk_drew ?_ | refine blk_alloc ?_ _)); refine blk_put (cs := #[.int .i64 t420, .bool (t424 == 1), .string t427, .int .i64 0]) ?_ 3 _ rfl; (with_reducible repeat (first | refine blk_drewN ?_ _ | refine blk_drew ?_ | refine blk_alloc ?_ _)); refine blk_put (cs := #[.int .i64 t420, .bool (t424 == 1), .string (⟨#[]⟩ : ByteArray), .int .i64 0]) ?_ 2 _ rfl; (with_reducible repeat (first | refine blk_drewN ?_ _ | refine blk_drew ?_ | refine blk_alloc ?_ _)); refine blk_put (cs := #[.int .i64 t420, .bool false, .string (⟨#[]⟩ : ByteArray), .int .i64 0]) ?_ 1 _ rfl; (with_reducible repeat (first | refine blk_drewN ?_ _ | refine blk_drew ?_ | refine blk_alloc ?_ _)); refine blk_put (cs := #[.int .i64 0, .bool false, .string (⟨#[]⟩ : ByteArray), .int .i64 0]) ?_ 0 _ rfl; (with_reducible repeat (first | refine blk_drewN ?_ _ | refine blk_drew ?_ | refine blk_alloc ?_ _)); exact BK419.out) Try.underlying50 rfl (by kernel_rfl)) rfl ?_
     exact ⟨by first | rfl | (simp [errW_none, errW_some] <;> rfl) | (simp [*, errW_none, errW_some] <;> rfl), by repeat (first | (with_reducible first | exact HI0.out | apply IsS41.alloc | apply IsS41.drewN | apply IsS41.drew | apply IsS41.set_1 | apply IsS41.set_2 | refine IsS41.far ?_ NB0_419.out _ | refine IsS41.far ?_ NB0_423.out _) | exact HI0.out), by repeat (first | (with_reducible first | exact HB.out | apply below_alloc | apply pw_below_drewN | apply below_drew1 | refine below_set ?_ (IsS41.ge HI0.out) | refine below_set ?_ GE419.out | refine below_set ?_ GE423.out) | exact HB.out), by repeat (first | (with_reducible first | exact HK.out | apply KeepBut.set_ | apply keep_drewN | apply keep_drew | apply keep_alloc | refine keep_far ?_ GW419.out _ | refine keep_far ?_ GW423.out _) | exact HK.out)⟩
    ·rw [if_neg c44] at H
     have c44b0 : (t432 == 0) = false := beq_eq_false_iff_ne.mpr c44
     have c44b1 : (t432 != 0) = true := bne_iff_ne.mpr c44
     simp only [Option.some.injEq, Prod.mk.injEq] at H
     obtain ⟨rfl, rfl, rfl, rfl, rfl, rfl⟩ := H
     obtain ⟨ASz51_0, cSz51_0, HGz51, hgz51, HSz51_0, _⟩ := HI0.out
     have hcz51_0 := cellS41_0 HGz51
     have hcz51_1 := cellS41_1 HGz51
     have hcz51_2 := cellS41_2 HGz51
     have hfz51_1 := blk_frozen HGz51 1
     have hfz51_2 := blk_frozen HGz51 2
     clear HGz51 hgz51
     have hnb52 := NB419_423.out
     have hnc52 := NB423_419.out
     have hnb53 := NB419_0.out
     have hnc53 := NB0_419.out
     have hcz54_0 : wc.cell? ⟨gb419, 0, none⟩ = some (.int .i64 0) := (blk_cell BK419.out 0).trans rfl
     have hcz54_1 : wc.cell? ⟨gb419, 1, none⟩ = some (.bool false) := (blk_cell BK419.out 1).trans rfl
     have hcz54_2 : wc.cell? ⟨gb419, 2, none⟩ = some (.string (⟨#[]⟩ : ByteArray)) := (blk_cell BK419.out 2).trans rfl
     have hcz54_3 : wc.cell? ⟨gb419, 3, none⟩ = some (.int .i64 0) := (blk_cell BK419.out 3).trans rfl
     have hfz54_0 := blk_frozen BK419.out 0
     have hfz54_1 := blk_frozen BK419.out 1
     have hfz54_2 := blk_frozen BK419.out 2
     have hfz54_3 := blk_frozen BK419.out 3
     go_wp2
     refine bodyPost_ret (results_cell_row rfl _ _ gb419 50 #[.int .i64 0, .bool false, .string (⟨#[]⟩ : ByteArray), .int .i64 0] (0, 0) _ rfl (by (with_reducible repeat (first | refine blk_drewN ?_ _ | refine blk_drew ?_ | refine blk_alloc ?_ _)); refine blk_put (cs := #[.int .i64 0, .bool false, .string (⟨#[]⟩ : ByteArray), .int .i64 0]) ?_ 3 _ rfl; (with_reducible repeat (first | refine blk_drewN ?_ _ | refine blk_drew ?_ | refine blk_alloc ?_ _)); refine blk_put (cs := #[.int .i64 0, .bool false, .string (⟨#[]⟩ : ByteArray), .int .i64 0]) ?_ 2 _ rfl; (with_reducible repeat (first | refine blk_drewN ?_ _ | refine blk_drew ?_ | refine blk_alloc ?_ _)); refine blk_put (cs := #[.int .i64 0, .bool false, .string (⟨#[]⟩ : ByteArray), .int .i64 0]) ?_ 1 _ rfl; (with_reducible repeat (first | refine blk_drewN ?_ _ | refine blk_drew ?_ | refine blk_alloc ?_ _)); refine blk_put (cs := #[.int .i64 0, .bool false, .string (⟨#[]⟩ : ByteArray), .int .i64 0]) ?_ 0 _ rfl; (with_reducible repeat (first | refine blk_drewN ?_ _ | refine blk_drew ?_ | refine blk_alloc ?_ _)); exact BK419.out) Try.underlying50 rfl (by kernel_rfl)) rfl ?_
     exact ⟨by first | rfl | (simp [errW_none, errW_some] <;> rfl) | (simp [*, errW_none, errW_some] <;> rfl), by repeat (first | (with_reducible first | exact HI0.out | apply IsS41.alloc | apply IsS41.drewN | apply IsS41.drew | apply IsS41.set_1 | apply IsS41.set_2 | refine IsS41.far ?_ NB0_419.out _ | refine IsS41.far ?_ NB0_423.out _) | exact HI0.out), by repeat (first | (with_reducible first | exact HB.out | apply below_alloc | apply pw_below_drewN | apply below_drew1 | refine below_set ?_ (IsS41.ge HI0.out) | refine below_set ?_ GE419.out | refine below_set ?_ GE423.out) | exact HB.out), by repeat (first | (with_reducible first | exact HK.out | apply KeepBut.set_ | apply keep_drewN | apply keep_drew | apply keep_alloc | refine keep_far ?_ GW419.out _ | refine keep_far ?_ GW423.out _) | exact HK.out)⟩

end Go.Proofs.Ytiglmgmkablpkaa.PK
